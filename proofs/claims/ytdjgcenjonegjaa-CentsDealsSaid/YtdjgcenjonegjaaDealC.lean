/- cents.Deal's two closures, and the sort by them -/
import Derived.Test.YtdjgcenjonegjaaStabF
import Derived.Test.YtdjgcenjonegjaaDealPick
import Derived.Deep.QuietTactic
namespace Go.Proofs.Ytdjgcenjonegjaa
open Go.RowKit Go.Shelf Go.Lib Go.Sort
set_option maxRecDepth 20000

/-- what the closures read -/
structure CutM (W : World) (gT gW gA gC b off cap : Nat) (T A : Int) (ws : List Int) : Prop where
  t : W.cell? ⟨gT, 0, none⟩ = some (I T)
  w : W.cell? ⟨gW, 0, none⟩ = some (.slice (some ⟨b, off, none⟩) ws.length cap)
  a : W.cell? ⟨gA, 0, none⟩ = some (I A)
  c : W.cell? ⟨gC, 0, none⟩ = some (.func (.func 9) #[] #[.pointer (some ⟨gT, 0, none⟩), .pointer (some ⟨gW, 0, none⟩), .pointer (some ⟨gA, 0, none⟩)])
  e : ∀ j, j < ws.length → W.cell? ⟨b, off + j, none⟩ = some (I (ws.getD j 0))

theorem cut_any {W : World} {gT gW gA gC b off cap : Nat} {T A : Int} {ws : List Int} (h : CutM W gT gW gA gC b off cap T A ws) (hT : 0 ≤ T ∧ T ≤ 1000000000000) (hA : 0 < A) (hA2 : A ≤ 50000000) (hw : ∀ k, 0 ≤ ws.getD k 0 ∧ ws.getD k 0 ≤ 1000000) (hn : ws.length ≤ 50) (i : Nat) (hi : i < ws.length) :
    Calls Try.prog 9 #[I i, .pointer (some ⟨gT, 0, none⟩), .pointer (some ⟨gW, 0, none⟩), .pointer (some ⟨gA, 0, none⟩)] W fun e w' => e = .returned (I (cutI T A ws i)) ∧ ∃ q, w' = W.drewN q := by
  have e0 := h.t
  have e1 := h.w
  have e2 := h.a
  have e3 := h.e i hi
  have hx := hw i
  have hc : cutI T A ws i = T * ws.getD i 0 % A := rfl
  rw [hc]
  clear h hw hc
  generalize ws.getD i 0 = x at *
  have m0 : 0 ≤ T * x := Int.mul_nonneg hT.1 hx.1
  have m1 : T * x ≤ 1000000000000 * 1000000 := Int.mul_le_mul hT.2 hx.2 hx.1 (by omega)
  have i0 : (0 : Int) ≤ (i : Int) := by omega
  have i1 : (i : Int) < (ws.length : Int) := by omega
  have hz : A ≠ 0 := by omega
  have hz2 : (A == 0) = false := by simp; omega
  have r0 := Int.emod_nonneg (T * x) hz
  have r1 := Int.emod_lt_of_pos (T * x) hA
  have ht : Int.tmod (T * x) A = T * x % A := Int.tmod_eq_emod_of_nonneg m0
  obtain ⟨t0, t1⟩ := hT
  obtain ⟨x0, x1⟩ := hx
  go_enter Try.func9, Try.ntmps9
  go_wp2_with fail
  go_quiet (fail)
  go_wp2
  go_ret
  exact ⟨rfl, _, rfl⟩

theorem cmp_any {W : World} {gT gW gA gC b off cap : Nat} {T A : Int} {ws : List Int} (h : CutM W gT gW gA gC b off cap T A ws) (hT : 0 ≤ T ∧ T ≤ 1000000000000) (hA : 0 < A) (hA2 : A ≤ 50000000) (hw : ∀ k, 0 ≤ ws.getD k 0 ∧ ws.getD k 0 ≤ 1000000) (hn : ws.length ≤ 50) (i j : Nat) (hi : i < ws.length) (hj : j < ws.length) :
    Calls Try.prog 11 #[I i, I j, .pointer (some ⟨gC, 0, none⟩)] W fun e w' => e = .returned (I (cutI T A ws j - cutI T A ws i)) ∧ ∃ q, w' = W.drewN q := by
  have e0 := h.c
  have Ci := Lib.hid (fun n => cut_any (W := W.drewN n) (gC := gC) ⟨h.t, h.w, h.a, h.c, h.e⟩ hT hA hA2 hw hn i hi)
  have Cj := Lib.hid (fun n => cut_any (W := W.drewN n) (gC := gC) ⟨h.t, h.w, h.a, h.c, h.e⟩ hT hA hA2 hw hn j hj)
  have r0 : 0 ≤ cutI T A ws i := Int.emod_nonneg _ (by omega)
  have r1 : cutI T A ws i < A := Int.emod_lt_of_pos _ hA
  have r2 : 0 ≤ cutI T A ws j := Int.emod_nonneg _ (by omega)
  have r3 : cutI T A ws j < A := Int.emod_lt_of_pos _ hA
  generalize cutI T A ws i = ci at *
  generalize cutI T A ws j = cj at *
  clear h hT hw hi hj hn
  go_enter Try.func11, Try.ntmps11
  go_wp2_with fail
  go_quiet (first
    | (go_at_call_of 9 (I (j : Int)); refine Calls.quiet_of (Cj.out _))
    | (go_at_call_of 9 (I (i : Int)); refine Calls.quiet_of (Ci.out _)))
  go_wp2
  go_ret
  exact ⟨rfl, _, rfl⟩

theorem CutM.sort {w : World} {gT gW gA gC b off cap : Nat} {T A : Int} {ws : List Int} (h : CutM w gT gW gA gC b off cap T A ws) {α : Type} [Inhabited α] (enc : α → Value) (blk o m : Nat) (dk : Array α) (os : Array Obj)
    (h1 : gT < w.heap.size ∧ gT ≠ blk) (h2 : gW < w.heap.size ∧ gW ≠ blk) (h3 : gA < w.heap.size ∧ gA ≠ blk) (h4 : gC < w.heap.size ∧ gC ≠ blk) (h5 : b < w.heap.size ∧ b ≠ blk) : CutM (sortWorld enc w blk o m dk os) gT gW gA gC b off cap T A ws := by
  have K : ∀ a : Addr, a.block < w.heap.size → a.block ≠ blk → (sortWorld enc w blk o m dk os).cell? a = w.cell? a := fun a ha hne => by
    unfold sortWorld
    rw [cell?_grow _ _ _ (by show a.block < (putRow _ _ _ _ _).heap.size; rw [size_putRow]; exact ha), cell?_putRow_other _ _ blk o _ _ (Or.inl hne)]
    rfl
  exact ⟨(K _ h1.1 h1.2).trans h.t, (K _ h2.1 h2.2).trans h.w, (K _ h3.1 h3.2).trans h.a, (K _ h4.1 h4.2).trans h.c, fun j hj => (K _ h5.1 h5.2).trans (h.e j hj)⟩

/-- the order ahead of the sort -/
def ordA (m : Nat) : Array (Fin (m + 1)) := Array.ofFn (fun i => i)
theorem ordA_size (m : Nat) : (ordA m).size = m + 1 := by simp [ordA]
theorem ordA_get (m : Nat) (i : Nat) (hi : i < m + 1) : (ordA m)[i]! = ⟨i, hi⟩ := by
  rw [getElem!_pos (ordA m) i (by rw [ordA_size]; exact hi)]
  simp [ordA]

set_option maxHeartbeats 2000000 in
theorem SortStable_any {w : World} {gT gW gA gC b off cap : Nat} {T : Int} {ws : List Int} (m : Nat) (hm : ws.length = m + 1) (h : CutM w gT gW gA gC b off cap T ws.sum ws) (hT : 0 ≤ T ∧ T ≤ 1000000000000) (hA : 0 < ws.sum) (hws : ws.all inW = true) (hn : ws.length ≤ 50)
    (blk oc : Nat) (hb : blk < w.heap.size) (hH : Holds (fun x : Fin (m + 1) => Value.int .i64 (x.val : Int)) w blk 0 (ordA m))
    (h1 : gT < w.heap.size ∧ gT ≠ blk) (h2 : gW < w.heap.size ∧ gW ≠ blk) (h3 : gA < w.heap.size ∧ gA ≠ blk) (h4 : gC < w.heap.size ∧ gC ≠ blk) (h5 : b < w.heap.size ∧ b ≠ blk) :
    Calls Try.prog 10 #[.slice (some ⟨blk, 0, none⟩) ws.length oc, .func (.func 11) #[] #[.pointer (some ⟨gC, 0, none⟩)]] w fun e w' => e = .returned (.tuple #[]) ∧ ∃ (d : Array (Fin (m + 1))) (q : Nat) (os : Array Obj), d.size = m + 1 ∧ Ord (cutI T ws.sum ws) ws.length (d.toList.map (fun x => x.val)) ∧ w' = sortWorld (fun x : Fin (m + 1) => Value.int .i64 (x.val : Int)) w blk 0 q d os := by
  have hw := all_get hws
  have hA2 : ws.sum ≤ 50000000 := by have := (sum_bd hws).2; omega
  have H : Stb (fun x : Fin (m + 1) => (x.val : Int)) 11 #[.pointer (some ⟨gC, 0, none⟩)] (fun x y => cutI T ws.sum ws y.val - cutI T ws.sum ws x.val) (fun x y => RK (cutI T ws.sum ws) x.val y.val) (fun x y => x.val < y.val) blk 0 (m + 1) (ordA m) w :=
    ⟨⟨fun _ => rfl, hH, hb⟩, ordA_size m, by omega, enters_of Try.func11 (by kernel_rfl) rfl,
     fun q os dk hs x y => by
      have := cmp_any (h.sort (fun x : Fin (m + 1) => Value.int .i64 (x.val : Int)) blk 0 q dk os h1 h2 h3 h4 h5) hT hA hA2 hw hn x.val y.val (by omega) (by omega)
      exact this.mono fun e w' ⟨he, n, hw'⟩ => ⟨he, n, #[], by rw [hw', grow_empty]⟩,
     fun x y z h k => RK.trans _ _ _ h k, fun x y hE hc => by unfold RK; omega, fun x y hE hc => by unfold RK; omega⟩
  have C : Hid (Calls Try.prog 13 #[.slice (some ⟨blk, 0, none⟩) ws.length oc, .int .i64 (ws.length : Int), .func (.func 11) #[] #[.pointer (some ⟨gC, 0, none⟩)]] w fun e w' => e = .returned (.tuple #[]) ∧ ∃ d', Kpt (ordA m) d' 0 (m + 1) ∧ Srt (fun x y => RK (cutI T ws.sum ws) x.val y.val) d' 0 (m + 1) ∧ SW (fun x : Fin (m + 1) => Value.int .i64 (x.val : Int)) w blk 0 d' w') := by
    have := stable_any H oc (ordA m) w (ordA_size m) (SW.start hH) (by omega) (fun i j h1 h2 h3 => by rw [ordA_get m i (by omega), ordA_get m j h3]; exact h2)
    rw [hm]; exact this
  have HM := Lib.hid hm
  clear H h hH hw hA2 hm
  go_enter Try.func10, Try.ntmps10
  go_wp2_with (go_at_call 13; refine C.out.mono ?_; rintro e w2 ⟨rfl, d, hk, hS, hw⟩; have HK := Lib.hid hk; have HS := Lib.hid hS; have HW := Lib.hid hw; clear hk hS hw C)
  go_end0
  obtain ⟨q, os, hq⟩ := HW.out
  have hk := HK.out
  have hS := HS.out
  refine ⟨rfl, d, q, os, hk.sz.trans (ordA_size m), ?_, hq⟩
  rw [HM.out]
  refine ord_of _ d (hk.sz.trans (ordA_size m)) hS (fun x => ?_)
  obtain ⟨j, j1, j2, e⟩ := hk.to x.val (Nat.zero_le _) x.isLt
  refine ⟨j, j2, ?_⟩
  rw [← e, ordA_get m x.val x.isLt]
end Go.Proofs.Ytdjgcenjonegjaa
