/- disk: the records themselves, as they lie; the reference's walk with its records -/
import Derived.Test.YtapcjemnhiimfaaDiskWalk
import Derived.Deep.AppendLies
namespace Go.Proofs.Ytapcjemnhiimfaa
open Go.RowKit
set_option maxRecDepth 20000

/-- the records from a place on -/
def recT (xs : List Int) : Nat → Nat → List (List Int)
  | 0, _ => []
  | f + 1, p => if 0 < stepI xs p then ((xs.drop (p + 1)).take (stepI xs p).toNat) :: recT xs f (p + (stepI xs p).toNat + 1) else []
def recR (xs : List Int) : List (List Int) := recT xs (xs.length + 1) 0
def recsOf (xs : List Int) : List (List Int) := if tapeE xs = 0 then recR xs else []
theorem recT_stop {xs : List Int} {f p : Nat} (h : ¬ 0 < stepI xs p) : recT xs (f + 1) p = [] := by simp [recT, h]
theorem recT_go {xs : List Int} {f p n : Nat} (h : stepI xs p = (n : Int)) (hn : 0 < n) : recT xs (f + 1) p = ((xs.drop (p + 1)).take n) :: recT xs f (p + n + 1) := by
  rw [recT, h, if_pos (by omega)]; simp

/-- a record: a block of its own, other than a given one -/
def Rec (W : World) (blk : Option Nat) (u : Value) (ws : List Int) : Prop :=
  ∃ g c, u = .slice (some ⟨g, 0, none⟩) ws.length c ∧ ws.length ≤ c ∧ ws.length ≤ 64 ∧ Own W g (ws.map U32) ∧ blk ≠ some g
theorem Rec.below {W W' : World} {blk : Option Nat} {u : Value} {ws : List Int} (h : Rec W blk u ws) (hb : Below W.heap.size W W') : Rec W' blk u ws := by
  obtain ⟨g, c, hu, h1, h2, h3, h4⟩ := h
  exact ⟨g, c, hu, h1, h2, h3.below hb, h4⟩
theorem Rec.sl {W : World} {blk : Option Nat} {u : Value} {ws : List Int} (h : Rec W blk u ws) : Sl W u 1 ws.length (ws.map U32) := by
  obtain ⟨g, c, hu, h1, h2, h3, h4⟩ := h
  subst hu
  exact h3.sl (by omega) h1 (by simp)
/-- records as they lie -/
def Recs (W : World) (base : Nat) (v : Value) (rs : List (List Int)) (us : List Value) : Prop :=
  us.length = rs.length ∧ W.ownsRow base 22 1 v rs.length us ∧ ∀ k, k < rs.length → Rec W v.ownBlock (us.getD k undef) (rs.getD k [])
theorem Recs.below {W W' : World} {base : Nat} {v : Value} {rs : List (List Int)} {us : List Value} (h : Recs W base v rs us) (hb : Below W.heap.size W W') : Recs W' base v rs us := by
  obtain ⟨h1, h2, h3⟩ := h
  exact ⟨h1, owns_below h2 hb, fun k hk => (h3 k hk).below hb⟩
theorem Recs.nil (W : World) (base : Nat) : Recs W base (.slice none 0 0) [] [] := ⟨rfl, World.ownsRow_nil _ _ _ _, fun k hk => absurd hk (by simp)⟩
theorem recs_snoc {W W' : World} {base g cap n : Nat} {v u : Value} {us : List Value} {rs : List (List Int)} {ws : List Int} (h : Recs W base v rs us) (hu : Rec W v.ownBlock u ws)
    (hown : W'.ownsRow base 22 1 (.slice (some ⟨g, 0, none⟩) n cap) n (us ++ [u])) (hn : n = rs.length + 1) (hgrow : W.grownBy W' v.ownBlock) (hg : v.ownBlock = some g ∨ g = W.heap.size) :
    Recs W' base (.slice (some ⟨g, 0, none⟩) n cap) (rs ++ [ws]) (us ++ [u]) := by
  obtain ⟨h1, h2, h3⟩ := h
  have key : ∀ u ws, Rec W v.ownBlock u ws → Rec W' (some g) u ws := by
    intro u ws h
    obtain ⟨gk, c, hu, q1, q2, q3, q4⟩ := h
    have hlt := q3.lt
    refine ⟨gk, c, hu, q1, q2, ?_, ?_⟩
    · obtain ⟨cur, e, hh, hc⟩ := q3
      exact ⟨cur, e, (hgrow.block gk hlt (fun e => q4 e.symm)).trans hh, hc⟩
    · intro e
      injection e with e
      subst e
      rcases hg with hg | hg
      · exact q4 hg
      · omega
  subst hn
  refine ⟨by simp [h1], by simpa using hown, ?_⟩
  intro k hk
  rw [List.length_append, List.length_singleton] at hk
  show Rec W' (some g) _ _
  by_cases hlt : k < rs.length
  · have := key _ _ (h3 k hlt)
    rw [List.getD_eq_getElem?_getD, List.getD_eq_getElem?_getD, List.getElem?_append_left (by omega), List.getElem?_append_left hlt]
    rwa [List.getD_eq_getElem?_getD, List.getD_eq_getElem?_getD] at this
  · have hkl : k = rs.length := by omega
    subst hkl
    have := key _ _ hu
    rw [List.getD_eq_getElem?_getD, List.getD_eq_getElem?_getD, List.getElem?_append_right (by omega), List.getElem?_append_right (by omega), h1]
    simpa using this

/-- what comes back: records in new memory, and two numbers -/
def GrewRecs (rs : List (List Int)) (p k : Int) (w : World) (e : Ending) (w' : World) : Prop :=
  ∃ v us, e = .returned (T3 v (I p) (I k)) ∧ Recs w' w.heap.size v rs us ∧ Below w.heap.size w w'
def RRel (w : World) (xs : List Int) (rs : List (List Int)) (f p : Nat) (us : List Value) (v : Value) (wr : World) : Prop :=
  Recs wr w.heap.size v rs us ∧ rs ++ recT xs f p = recR xs ∧ Below w.heap.size w wr

set_option maxHeartbeats 4000000 in
theorem Replayed_recs (v : Value) (xs : List Int) (w : World) (h : Sl w v 1 xs.length (xs.map U32)) (hw : ∀ x ∈ xs, W32 x) :
    Calls Try.prog 6 #[v] w (GrewRecs (recsOf xs) (tapeA xs) (tapeE xs) w) := by
  obtain ⟨i0, hi, hz0, hz1, hz2⟩ := info_parts infoRec
  obtain ⟨j0, hj, hy0, hy1, hy2⟩ := info_parts infoU32d
  have hS := h
  obtain ⟨a, cap, rfl, hn, hl, h0, hr⟩ := h
  clear hl h0
  cases hi1 : inB xs.length 1 2048
  · have e1 : tapeE xs = 1 := by simp [tapeE, hi1]
    have e2 : tapeA xs = 0 := by simp [tapeA, e1]
    have e3 : recsOf xs = [] := by simp [recsOf, e1]
    rw [e1, e2, e3]
    clear e1 e2 e3 hr hw
    go_enter Try.func6, Try.ntmps6
    go_wp2_with (go_at_call 11; refine (In_any _ _ _ _).mono ?_; rintro e w' ⟨rfl, rfl⟩)
    go_ret3
    exact ⟨_, _, rfl, Recs.nil _ _, Below.refl _ _⟩
  · obtain ⟨l0, l1⟩ := inB_true.1 hi1
    have HE := Lib.hid (show tapeE xs = if (tapeR xs).2 then 0 else 3 by simp [tapeE, hi1])
    have HA := Lib.hid (show tapeA xs = if tapeE xs = 0 then (((tapeR xs).1 : Nat) : Int) else 0 from rfl)
    have HC := Lib.hid (show recsOf xs = if tapeE xs = 0 then recR xs else [] from rfl)
    have L := Lib.hid (fun at_ W hW (ha : at_ ≤ xs.length) => lengthAt_any (.slice a xs.length cap) xs at_ W hW hw ha (by omega) (by omega))
    have HB := Lib.hid (fun at_ (ha : at_ ≤ xs.length) => stepI_bd hw ha)
    have L0 := Lib.hid (L.out 0 w hS (Nat.zero_le _))
    generalize tapeA xs = RA at *
    generalize tapeE xs = RE at *
    generalize recsOf xs = RC at *
    clear hw
    go_enter Try.func6, Try.ntmps6
    go_wp2_with (first | (go_at_call 11; refine (In_any _ _ _ _).mono ?_; rintro e w' ⟨rfl, rfl⟩) | (go_at_call 12; refine (L0.out).mono ?_; rintro e w' ⟨rfl, rfl⟩))
    go_loopw [5, 6, 7] (fun v i n wr => ∃ (rs : List (List Int)) (us : List Value) (p f : Nat), p ≤ xs.length ∧ rs.length ≤ p ∧ i = I p ∧ n = I (stepI xs p) ∧ xs.length + 1 ≤ f + p ∧ Hid (runT xs f p = tapeR xs) ∧ Hid (RRel w xs rs f p us v wr)) (fun _ i _ _ => xs.length + 1 - (intOf i).toNat)
    case atStart => exact ⟨[], [], 0, xs.length + 1, by omega, by simp, rfl, rfl, by omega, rfl, Recs.nil _ _, rfl, Below.refl _ _⟩
    case round =>
      obtain ⟨rs, us, p, f, hp, hkp, rfl, rfl, hf, hT, hD⟩ := hrel
      obtain ⟨f, rfl⟩ : ∃ f', f = f' + 1 := ⟨f - 1, by omega⟩
      obtain ⟨hrecs, hacc, hbw⟩ := hD.out
      have hsz := hbw.size
      obtain ⟨s1, s2, s3⟩ := HB.out p hp
      rcases Int.lt_trichotomy (stepI xs p) 0 with hs | hs | hs
      · have hR := hT.out
        rw [runT_bad hs] at hR
        have E1 : RE = 3 := by rw [HE.out, ← hR]; rfl
        have E2 : RA = 0 := by rw [HA.out, E1]; rfl
        have E3 : RC = [] := by rw [HC.out, E1]; rfl
        have F1 := Lib.hid E1
        have F2 := Lib.hid E2
        have F3 := Lib.hid E3
        clear E1 E2 E3 hR hT HE HA HC L L0 HB s1 s2 s3 hrecs hacc
        generalize stepI xs p = n at *
        go_wp2
        go_ret3
        rw [F1.out, F2.out, F3.out]
        exact ⟨_, _, rfl, Recs.nil _ _, hbw⟩
      · have hR := hT.out
        rw [runT_stop hs] at hR
        rw [recT_stop (by omega), List.append_nil] at hacc
        have E1 : RE = 0 := by rw [HE.out, ← hR]; rfl
        have E2 : RA = p := by rw [HA.out, E1, ← hR]; rfl
        have E3 : RC = rs := by rw [HC.out, E1, hacc]; rfl
        have F1 := Lib.hid E1
        have F2 := Lib.hid E2
        have F3 := Lib.hid E3
        have HRc := Lib.hid hrecs
        clear E1 E2 E3 hR hT HE HA HC L L0 HB s1 s2 s3 hrecs hacc hD
        generalize stepI xs p = n at *
        go_wp2
        go_ret3
        rw [F1.out, F2.out, F3.out]
        exact ⟨_, _, rfl, HRc.out, hbw⟩
      · have hR := hT.out
        rw [runT_go hs] at hR
        obtain ⟨n, hn0⟩ := Int.eq_ofNat_of_zero_le (Int.le_of_lt hs)
        have hpn := s3 hs
        rw [hn0, Int.toNat_natCast] at hR
        rw [hn0] at hs s2 hpn
        rw [recT_go hn0 (by omega)] at hacc
        have HR := Lib.hid hR
        have HAcc := Lib.hid hacc
        have HRc := Lib.hid hrecs
        rw [hn0]
        clear hR hT hn0 s1 s3 hacc hrecs hD
        have hn1 : 0 < n := by omega
        have hpn2 : p + n + 1 ≤ xs.length := by omega
        go_wp2_with (refine wpList_make_full _ rfl (.tmp 19) (.tmp 19) 22 rfl wr.heap.size 37 j0 (.int .u32 0) 1 Try.underlying22 hj hy0 hy1 .i64 .i64 _ _ n rfl rfl rfl rfl (by rw [hy2]; omega) (by unfold maxLen; omega) (Nat.le_refl _) ?_; intro w2 hown2 hgrow; have hbel := Below.grown (B := wr.heap.size) (Below.refl _ wr) hgrow (Nat.le_refl _) (fun k hk => by cases hk); have hO := Own.of_owns (made_int hown2); clear hown2 hgrow)
        generalize wr = wO at *
        obtain ⟨b, off, rfl, hb, hcell⟩ := hr.resolve_left (by omega)
        have hW0 : Hid (∃ L : List Value, L.length = n ∧ (∀ j, j < 0 → L.getD j undef = U32 (xs.getD (p + 1 + j) 0)) ∧ Own w2 wO.heap.size L) := ⟨_, by simp, fun j hj => by omega, hO⟩
        clear hO hr
        go_loopw [9] (fun i wr => ∃ q : Nat, q ≤ n ∧ i = I q ∧ Hid (∃ L : List Value, L.length = n ∧ (∀ j, j < q → L.getD j undef = U32 (xs.getD (p + 1 + j) 0)) ∧ Own wr wO.heap.size L) ∧ Below wO.heap.size wO wr) (fun i _ => n - (intOf i).toNat)
        case atStart => exact ⟨0, Nat.zero_le _, rfl, hW0, hbel⟩
        case round =>
          obtain ⟨q, hq, rfl, hL, hbq⟩ := hrel
          obtain ⟨Lc, hLl, hLc, hOq⟩ := hL.out
          have hbwq := hbw.trans (hbq.mono hsz)
          by_cases hlt : q < n
          · have e0 := (hbwq.cell (p := ⟨b, off + (p + 1 + q), none⟩) hb).trans (hcell (p + 1 + q) (by simp; omega))
            rw [getD_map' _ _ (by omega)] at e0
            have e1 := hOq.cell q (by omega)
            rw [Nat.zero_add] at e1
            have f1 := hOq.frozen q
            have hnext := Lib.hid (show ∃ L : List Value, L.length = n ∧ (∀ j, j < q + 1 → L.getD j undef = U32 (xs.getD (p + 1 + j) 0)) ∧ Own (wr.setCell ⟨wO.heap.size, q, none⟩ (U32 (xs.getD (p + 1 + q) 0))) wO.heap.size L from
              ⟨Lc.set q (U32 (xs.getD (p + 1 + q) 0)), by rw [List.length_set]; exact hLl, fun j hj => by
                rw [List.getD_eq_getElem?_getD, List.getElem?_set]
                by_cases hjq : q = j
                · subst hjq; simp [hLl, hlt]
                · rw [if_neg hjq, ← List.getD_eq_getElem?_getD]; exact hLc j (by omega), hOq.set q _⟩)
            have hbn := fun x => hbq.setCell (p := ⟨wO.heap.size, q, none⟩) (Nat.le_refl _) x
            have hi0 : (0 : Int) ≤ (q : Int) := by omega
            have hi1' : (q : Int) < (n : Int) := by omega
            have hj0 : (0 : Int) ≤ (p : Int) + 1 + q := by omega
            have hj1 : (p : Int) + 1 + q < (xs.length : Int) := by omega
            have hto : ((p : Int) + 1 + (q : Int)).toNat = p + 1 + q := by omega
            generalize hy : xs.getD (p + 1 + q) 0 = y at *
            clear hy
            generalize Lc.getD q undef = z at *
            clear hOq hLl hLc hL hcell hbwq
            go_wp2
            exact ⟨⟨q + 1, by omega, by go_num, hnext, hbn _⟩, by simp [intOf]; omega⟩
          · have hge : (n : Int) ≤ (q : Int) := by omega
            have hqn : q = n := by omega
            have hLw : Lc = ((xs.drop (p + 1)).take n).map U32 := by
              apply List.ext_getElem
              · simp; omega
              · intro j h1 h2
                have := hLc j (by omega)
                rw [List.getD_eq_getElem?_getD, List.getElem?_eq_getElem h1, List.getD_eq_getElem?_getD, List.getElem?_eq_getElem (by omega)] at this
                simpa using this
            rw [hLw] at hOq
            have hlw : ((xs.drop (p + 1)).take n).length = n := by simp; omega
            have hRc2 := HRc.out.below hbq
            have hown := hRc2.2.1
            have hbl : u5.ownBlock ≠ some wO.heap.size := fun e => by have := (HRc.out.2.1.lt _ e).2; omega
            have hu : Hid (Rec wr u5.ownBlock (.slice (some ⟨wO.heap.size, 0, none⟩) n n) ((xs.drop (p + 1)).take n)) := by
              refine ⟨wO.heap.size, n, by rw [hlw], by omega, by omega, hOq, hbl⟩
            have HRc3 := Lib.hid hRc2
            have hszq := hbwq.size
            clear hOq hLl hLc hL hcell hLw hqn hRc2 hbl HRc
            go_wp2_with (first
              | (at_builtin; refine wpList_append_lies _ rfl _ _ 24 rfl w.heap.size 22 i0 (.slice none 0 0) 1 24 Try.underlying24 hi hz0 hz1 hz2 rfl (by decide) _ _ us rfl (hown.alloc _) ⟨wr.heap.size, 0, none⟩ 1 1 [.slice (some ⟨wO.heap.size, 0, none⟩) n n] rfl rfl (news_lit _ _ _) (oneCells_lit rfl) (by omega) (by unfold maxLen; omega) (by omega) (by simp; omega) _ rfl ?_; intro gg cap2 w1 hown' hgrow hat hlt1)
              | (go_at_call 12; rw [show ((p : Int) + n + 1) = ((p + n + 1 : Nat) : Int) by omega]; refine (L.out (p + n + 1) _ (hS.below (grown_below (hbwq.alloc hszq _) (hown.alloc _) (Nat.le_refl _) hgrow)) hpn2).mono ?_; rintro e w' ⟨rfl, rfl⟩))
            have hbel2 := grown_below (hbwq.alloc hszq _) (hown.alloc _) (Nat.le_refl _) hgrow
            have hR2 := recs_snoc (HRc3.out.below (boxed_below wr _)) (hu.out.below (boxed_below wr _)) hown' rfl hgrow hat
            exact ⟨⟨rs ++ [(xs.drop (p + 1)).take n], us ++ [.slice (some ⟨wO.heap.size, 0, none⟩) n n], p + n + 1, f, by omega, by simp; omega, eI (by omega), rfl, by omega, HR, ⟨hR2, by rw [← HAcc.out]; simp, hbel2⟩⟩, by simp [intOf]; omega⟩
end Go.Proofs.Ytapcjemnhiimfaa
