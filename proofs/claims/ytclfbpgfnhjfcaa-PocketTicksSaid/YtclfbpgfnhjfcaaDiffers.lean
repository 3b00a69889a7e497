/- ref.Differs -/
import Derived.Test.YtclfbpgfnhjfcaaIn
import Derived.Test.YtclfbpgfnhjfcaaApi
namespace Go.Proofs.Ytclfbpgfnhjfcaa
open Go.RowKit
set_option maxRecDepth 20000
theorem infoWrite : (Try.prog.info? 97).map (fun i => (i.zero, i.size, i.bytes)) = some (some (.agg #[.int .i64 0, .int .u32 0]), 2, 16) := by kernel_rfl

def diffOk (n m : Nat) : Bool := inB n 1 2048 && n == m
def diffE (n m : Nat) : Int := if diffOk n m then 0 else 1
def diffTo (xs ys : List Int) (k : Nat) : List AWrite := (List.range k).filterMap fun i => if xs.getD i 0 = ys.getD i 0 then none else some ⟨i, ys.getD i 0⟩
def diffL (xs ys : List Int) : List AWrite := if diffOk xs.length ys.length then diffTo xs ys xs.length else []
theorem diffTo_len (xs ys : List Int) (k : Nat) : (diffTo xs ys k).length ≤ k := by
  unfold diffTo
  exact Nat.le_trans (List.length_filterMap_le _ _) (by simp)
theorem diffTo_eq {xs ys : List Int} {k : Nat} (h : xs.getD k 0 = ys.getD k 0) : diffTo xs ys (k + 1) = diffTo xs ys k := by
  unfold diffTo
  rw [List.range_succ, List.filterMap_append]
  simp only [List.filterMap_cons, List.filterMap_nil, if_pos h, List.append_nil]
theorem diffTo_ne {xs ys : List Int} {k : Nat} (h : xs.getD k 0 ≠ ys.getD k 0) : diffTo xs ys (k + 1) = diffTo xs ys k ++ [⟨k, ys.getD k 0⟩] := by
  unfold diffTo
  rw [List.range_succ, List.filterMap_append]
  simp only [List.filterMap_cons, List.filterMap_nil, if_neg h]

theorem cells_app (l : List AWrite) (x : AWrite) : l.flatMap AWrite.cells ++ [I x.at_, U32 x.word] = (l ++ [x]).flatMap AWrite.cells := by simp [AWrite.cells]

/-- the relation of both loops -/
def DRel (w : World) (xs ys : List Int) (k : Nat) (v : Value) (wr : World) : Prop :=
  wr.ownsRow w.heap.size 97 2 v (diffTo xs ys k).length ((diffTo xs ys k).flatMap AWrite.cells) ∧ Below w.heap.size w wr

theorem Differs_any (v1 v2 : Value) (xs ys : List Int) (w : World) (h1 : Sl w v1 1 xs.length (xs.map U32)) (h2 : Sl w v2 1 ys.length (ys.map U32)) :
    Calls Try.prog 82 #[v1, v2] w (GrewSl2 2 (diffL xs ys).length ((diffL xs ys).flatMap AWrite.cells) (diffE xs.length ys.length) w) := by
  obtain ⟨i0, hi, hz0, hz1, hz2⟩ := info_parts infoWrite
  have hf := Lib.hid h1
  obtain ⟨a1, c1, rfl, hn1, _, _, h1⟩ := h1
  obtain ⟨a2, c2, rfl, hn2, _, _, h2⟩ := h2
  by_cases hin : inB xs.length 1 2048 = true
  · obtain ⟨hin1, hin2⟩ := inB_true.1 hin
    by_cases hl : xs.length = ys.length
    · have hok : diffOk xs.length ys.length = true := by simp only [diffOk, hin, Bool.true_and, beq_iff_eq]; exact hl
      have hE : diffE xs.length ys.length = 0 := by simp [diffE, hok]
      have hL : diffL xs ys = diffTo xs ys xs.length := by simp [diffL, hok]
      rw [hE, hL]
      have hb : ((xs.length : Int) != (ys.length : Int)) = false := by simp [hl]
      have hl1 : xs.length ≤ ys.length := by omega
      have hl2 : ys.length ≤ xs.length := by omega
      have Hl := Lib.hid hl
      clear hl hE hL hok
      go_enter Try.func82, Try.ntmps82
      go_wp2_with (go_at_call 54; refine (In_any _ _ _ _).mono ?_; rintro e w' ⟨rfl, rfl⟩)
      go_loopw [6, 7] (fun v i wr => ∃ k : Nat, k ≤ xs.length ∧ i = I k ∧ Hid (DRel w xs ys k v wr)) (fun _ i _ => xs.length - (intOf i).toNat)
      case atStart => exact ⟨0, Nat.zero_le _, rfl, World.ownsRow_nil _ _ _ _, Below.refl _ _⟩
      case round =>
        obtain ⟨k, hk, rfl, hD⟩ := hrel
        by_cases hlt : k < xs.length
        · obtain ⟨hown, hbw⟩ := hD.out
          have hsz := hbw.size
          have hdl := diffTo_len xs ys k
          obtain ⟨b1, o1, rfl, hb1, hc1⟩ := h1.resolve_left (by omega)
          obtain ⟨b2, o2, rfl, hb2, hc2⟩ := h2.resolve_left (by omega)
          have e1 := (hbw.cell (p := ⟨b1, o1 + k, none⟩) hb1).trans (hc1 k (by simp; omega))
          have e2 := (hbw.cell (p := ⟨b2, o2 + k, none⟩) hb2).trans (hc2 k (by simp; omega))
          rw [getD_map' _ _ (by omega)] at e1
          rw [getD_map' _ _ (by omega)] at e2
          clear hc1 hc2 h1 h2
          have hi0 : (0 : Int) ≤ (k : Int) := by omega
          have hi1 : (k : Int) < (xs.length : Int) := by omega
          have hi2 : (k : Int) < (ys.length : Int) := by omega
          by_cases hv : xs.getD k 0 = ys.getD k 0
          · have hv' : (xs.getD k 0 != ys.getD k 0) = false := by rw [bne_eq_false_iff_eq]; exact hv
            have hs := Lib.hid (diffTo_eq hv)
            clear hv hown hbw
            generalize xs.getD k 0 = x at *
            generalize ys.getD k 0 = y at *
            go_wp2
            go_quiet (fail)
            go_wp2
            exact ⟨⟨k + 1, by omega, by go_num, by unfold Hid DRel; rw [hs.out]; exact ⟨owns_drewN hD.out.1 _, drewN_below hD.out.2 _⟩⟩, by simp [intOf]; omega⟩
          · have hv' : (xs.getD k 0 != ys.getD k 0) = true := by rw [bne_iff_ne]; exact hv
            have hs := Lib.hid (diffTo_ne hv)
            clear hv
            generalize xs.getD k 0 = x at *
            generalize ys.getD k 0 = y at *
            go_wp2
            go_quiet (fail)
            have hown0 := hown
            have hsz0 := hsz
            have hbw0 := hbw
            clear hown hsz hbw hD
            rename_i nq
            have hown := owns_drewN hown0 nq
            have hbw := drewN_below hbw0 nq
            have hsz := hbw.size
            have e2 : (wr.drewN nq).cell? ⟨b2, o2 + k, none⟩ = some (U32 y) := e2
            clear hown0 hsz0 hbw0
            generalize wr.drewN nq = wr2 at *
            go_wp2_with (at_builtin; refine wpList_append_own _ rfl _ _ 56 rfl w.heap.size 97 i0 (.agg #[.int .i64 0, .int .u32 0]) 2 16 Try.underlying56 hi hz0 hz1 hz2 rfl (by decide) _ _ _ rfl (hown.alloc _) ⟨wr2.heap.size, 0, none⟩ 1 1 [I k, U32 y] rfl rfl (news_lit _ [I k, U32 y] _) (oneCells_lit rfl) (by unfold maxLen; omega) (by omega) (by simp; omega) ?_; intro v' w1 hown' hgrow _)
            have hbel := grown_below (hbw.alloc hsz _) (hown.alloc _) (Nat.le_refl _) hgrow
            have hD' : Hid (DRel w xs ys (k + 1) v' w1) := by
              refine ⟨?_, hbel⟩
              rw [hs.out, List.length_append, ← cells_app]
              exact hown'
            clear hown hown' hgrow hbel hbw
            go_wp2
            exact ⟨⟨k + 1, by omega, by go_num, hD'⟩, by simp [intOf]; omega⟩
        · have hkm : k = xs.length := by omega
          have hS := Sl.of_owns hD.out.1 (by have := diffTo_len xs ys k; omega)
          have hb' := hD.out.2
          rw [hkm] at hS
          clear hkm hD
          go_wp2
          go_ret2
          exact ⟨_, rfl, hS, hb'⟩
    · have hok : diffOk xs.length ys.length = false := by simp [diffOk, hl]
      have hE : diffE xs.length ys.length = 1 := by simp [diffE, hok]
      have hL : diffL xs ys = [] := by simp [diffL, hok]
      rw [hE, hL]
      have hb : ((xs.length : Int) != (ys.length : Int)) = true := by simp; omega
      clear hl hE hL hok
      go_enter Try.func82, Try.ntmps82
      go_wp2_with (go_at_call 54; refine (In_any _ _ _ _).mono ?_; rintro e w' ⟨rfl, rfl⟩)
      go_ret2
      exact ⟨_, rfl, Sl.nil _ _, Below.refl _ _⟩
  · have hok : diffOk xs.length ys.length = false := by simp [diffOk, hin]
    have hE : diffE xs.length ys.length = 1 := by simp [diffE, hok]
    have hL : diffL xs ys = [] := by simp [diffL, hok]
    rw [hE, hL]
    simp only [Bool.not_eq_true] at hin
    clear hE hL hok
    go_enter Try.func82, Try.ntmps82
    go_wp2_with (go_at_call 54; refine (In_any _ _ _ _).mono ?_; rintro e w' ⟨rfl, rfl⟩)
    go_ret2
    exact ⟨_, rfl, Sl.nil _ _, Below.refl _ _⟩
end Go.Proofs.Ytclfbpgfnhjfcaa
