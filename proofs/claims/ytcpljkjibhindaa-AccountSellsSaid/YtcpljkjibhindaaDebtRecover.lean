/- debt.Recover and its reference -/
import Derived.Test.YtcpljkjibhindaaDebtShare
import Derived.Test.YtcpljkjibhindaaAgeF
namespace Go.Proofs.Ytcpljkjibhindaa
open Go.RowKit
set_option maxRecDepth 20000
/-- the call returns a slice that reads as cs, in new memory, and two numbers -/
def GrewSl3 (sz n : Nat) (cs : List Value) (p k : Int) (w : World) (e : Ending) (w' : World) : Prop := ∃ v, e = .returned (T3 v (I p) (I k)) ∧ Sl w' v sz n cs ∧ Below w.heap.size w w' ∧ FarB w.heap.size v

def leftOf (s ahead : Int) (d : ADebt) : Int := min d.owed (ahead + d.owed - s)
def outTo (s : Int) (xs : List ADebt) (k : Nat) : List ADebt := (List.range k).filterMap fun i => if 0 < leftOf s (sumTo xs i) (xs.getD i default) then some ⟨leftOf s (sumTo xs i) (xs.getD i default), (xs.getD i default).bp⟩ else none
theorem outTo_len (s : Int) (xs : List ADebt) (k : Nat) : (outTo s xs k).length ≤ k := by
  unfold outTo
  exact Nat.le_trans (List.length_filterMap_le _ _) (by simp)
theorem outTo_no {s : Int} {xs : List ADebt} {k : Nat} (h : ¬ 0 < leftOf s (sumTo xs k) (xs.getD k default)) : outTo s xs (k + 1) = outTo s xs k := by
  unfold outTo
  rw [List.range_succ, List.filterMap_append]
  simp only [List.filterMap_cons, List.filterMap_nil, if_neg h, List.append_nil]
theorem outTo_yes {s : Int} {xs : List ADebt} {k : Nat} (h : 0 < leftOf s (sumTo xs k) (xs.getD k default)) : outTo s xs (k + 1) = outTo s xs k ++ [⟨leftOf s (sumTo xs k) (xs.getD k default), (xs.getD k default).bp⟩] := by
  unfold outTo
  rw [List.range_succ, List.filterMap_append]
  simp only [List.filterMap_cons, List.filterMap_nil, if_pos h]

def recOk (xs : List ADebt) (t bp : Int) : Bool := debtE xs == 0 && shareOk t bp
def recE (xs : List ADebt) (t bp : Int) : Int := if debtE xs = 0 then (if shareOk t bp then 0 else 2) else debtE xs
def recL (xs : List ADebt) (t bp : Int) : List ADebt := if recOk xs t bp then outTo (shareA t bp) xs xs.length else []
def recP (xs : List ADebt) (t bp : Int) : Int := if recOk xs t bp then min (debtSum xs) (shareA t bp) else 0

/-- the relation of both loops -/
def RRel (w : World) (s : Int) (xs : List ADebt) (k : Nat) (v : Value) (wr : World) : Prop :=
  wr.ownsRow w.heap.size 45 2 v (outTo s xs k).length ((outTo s xs k).flatMap ADebt.cells) ∧ Below w.heap.size w wr

theorem retT3 {v : Value} {a b k : Int} (h : a = b) : Ending.returned (T3 v (I a) (I k)) = .returned (T3 v (I b) (I k)) := by rw [h]
theorem RRel.keep {w : World} {s : Int} {xs : List ADebt} {k : Nat} {v : Value} {wr : World} (hD : RRel w s xs k v wr) (h : outTo s xs (k + 1) = outTo s xs k) (c : Obj) : Hid (RRel w s xs (k + 1) v (wr.alloc c)) :=
  ⟨by rw [h]; exact hD.1.alloc _, hD.2.alloc hD.2.size _⟩

set_option maxHeartbeats 2000000 in
theorem Recover_ok (v : Value) (xs : List ADebt) (t bp : Int) (w : World) (h : Sl w v 2 xs.length (xs.flatMap ADebt.cells)) (hok : recOk xs t bp = true) :
    Calls Try.prog 83 #[v, I t, I bp] w (GrewSl3 2 (outTo (shareA t bp) xs xs.length).length ((outTo (shareA t bp) xs xs.length).flatMap ADebt.cells) (min (debtSum xs) (shareA t bp)) 0 w) := by
  obtain ⟨i0, hi, hz0, hz1, hz2⟩ := info_parts infoDebt
  simp only [recOk, Bool.and_eq_true, beq_iff_eq] at hok
  obtain ⟨hE, hs⟩ := hok
  obtain ⟨h8, hall⟩ := debtE_zero hE
  have F := Lib.hid (fun W (hW : Sl W v 2 xs.length (xs.flatMap ADebt.cells)) => fault_any v xs W hW)
  rw [hE] at F
  have hs' := hs
  simp only [shareOk, Bool.and_eq_true, inB_true] at hs'
  obtain ⟨⟨t0, t1⟩, p0, p1⟩ := hs'
  have hSA : shareA t bp = partA t bp := by simp [shareA, hs]
  have hPE : partE t bp = 0 := by
    have : partOk t bp = true := by simp [partOk, inB_true]; omega
    simp [partE, this]
  have P := Lib.hid (fun W => part_any t bp W)
  rw [hPE] at P
  have hpb := partA_bd t bp
  have hpl := partA_le t bp t0
  rw [hSA]
  have Hall := Lib.hid hall
  clear hSA hPE hs hE hall
  generalize partA t bp = s at *
  go_enter Try.func83, Try.ntmps83
  go_wp2_with fail
  refine (F.out _ h).mono ?_
  rintro e w0 ⟨rfl, k1⟩
  have h1 := h.below k1
  obtain ⟨a, cap, rfl, hn, hl, h0, h1⟩ := h1
  clear h hl h0
  go_wp2_with (first | (go_at_call 84; refine (P.out _).mono ?_; rintro e w' ⟨rfl, rfl⟩))
  go_loopw [12, 13, 36] (fun p v i wr => ∃ k : Nat, k ≤ xs.length ∧ i = I k ∧ p = I (min (sumTo xs k) s) ∧ Hid (RRel w0 s xs k v wr)) (fun _ _ i _ => xs.length - (intOf i).toNat)
  case atStart => exact ⟨0, Nat.zero_le _, rfl, eI (by simp [sumTo]; omega), World.ownsRow_nil _ _ _ _, Below.refl _ _⟩
  case round =>
    obtain ⟨k, hk, rfl, rfl, hD⟩ := hrel
    obtain ⟨s0, s1⟩ := sumTo_bd Hall.out k hk
    by_cases hlt : k < xs.length
    · obtain ⟨hown, hbw⟩ := hD.out
      have hsz := hbw.size
      have hdl := outTo_len s xs k
      obtain ⟨b, off, rfl, hb, hc⟩ := h1.resolve_left (by omega)
      obtain ⟨e0, e1⟩ := elDebt hb hc hbw k hlt
      obtain ⟨q0, q1, q2, q3⟩ := okDebt_true.1 (okAt Hall.out hlt)
      have hs := Lib.hid (sumTo_succ hlt)
      have hy := Lib.hid (fun hh => outTo_yes (s := s) (xs := xs) (k := k) hh)
      have hno := Lib.hid (fun hh => outTo_no (s := s) (xs := xs) (k := k) hh)
      have hi0 : (0 : Int) ≤ (k : Int) := by omega
      have hi1 : (k : Int) < (xs.length : Int) := by omega
      clear hc h1
      generalize xs.getD k default = x at *
      have m0 : 0 ≤ min (sumTo xs k) s := by omega
      have m1 : min (sumTo xs k) s ≤ s := by omega
      have A1 := Lib.hid (show x.owed ≤ s - min (sumTo xs k) s → outTo s xs (k + 1) = outTo s xs k from fun h => hno.out (by unfold leftOf; omega))
      have A2 := Lib.hid (show x.owed ≤ s - min (sumTo xs k) s → min (sumTo xs k) s + x.owed = min (sumTo xs (k + 1)) s from fun h => by rw [hs.out]; omega)
      have B1 := Lib.hid (show s - min (sumTo xs k) s < x.owed → outTo s xs (k + 1) = outTo s xs k ++ [⟨x.owed - (s - min (sumTo xs k) s), x.bp⟩] from fun h => by
        have e : leftOf s (sumTo xs k) x = x.owed - (s - min (sumTo xs k) s) := by unfold leftOf; omega
        rw [hy.out (by rw [e]; omega), e])
      have B2 := Lib.hid (show s - min (sumTo xs k) s < x.owed → min (sumTo xs k) s + (s - min (sumTo xs k) s) = min (sumTo xs (k + 1)) s from fun h => by rw [hs.out]; omega)
      clear hs hy hno F P s0 s1
      generalize min (sumTo xs k) s = q at *
      by_cases hv : s - q < x.owed
      · have H1 := Lib.hid (B1.out hv)
        have H2 := Lib.hid (B2.out hv)
        clear A1 A2 B1 B2
        have hownB := hown.alloc (.cells #[I (x.owed - (s - q)), I x.bp] 45)
        have hbwB := hbw.alloc hsz (.cells #[I (x.owed - (s - q)), I x.bp] 45)
        have hszB := hbwB.size
        have hlt0 : 0 < x.owed - (s - q) := by omega
        go_wp2_with (skip; (at_builtin; refine wpList_append_own _ rfl _ _ 37 rfl w0.heap.size 45 i0 (.agg #[.int .i64 0, .int .i64 0]) 2 16 Try.underlying37 hi hz0 hz1 hz2 rfl (by decide) _ _ _ rfl (hownB.alloc _) ⟨(wr.heap.size + 1), 0, none⟩ 1 1 [I (x.owed - (s - q)), I x.bp] rfl rfl (news_at _ (size_alloc1 _ _) [I (x.owed - (s - q)), I x.bp] _) (oneCells_lit rfl) (by unfold maxLen; omega) (by omega) (by simp; omega) ?_; intro v' w1 hown' hgrow _))
        have hbel := grown_below (hbwB.alloc hszB _) (hownB.alloc _) (Nat.le_refl _) hgrow
        have hD' : Hid (RRel w0 s xs (k + 1) v' w1) := by
          refine ⟨?_, hbel⟩
          rw [H1.out, List.length_append, ← cells_appD]
          exact hown'
        clear hown hown' hgrow hbel hbw hD hownB hbwB
        go_wp2
        exact ⟨⟨k + 1, by omega, by go_num, eI (by rw [H2.out]), hD'⟩, by simp [intOf]; omega⟩
      · have hv' : x.owed ≤ s - q := by omega
        have H1 := Lib.hid (A1.out hv')
        have H2 := Lib.hid (A2.out hv')
        clear A1 A2 B1 B2
        have hD' := fun c => RRel.keep hD.out H1.out c
        clear hown hbw hD
        go_wp2
        exact ⟨⟨k + 1, by omega, by go_num, eI (by rw [H2.out]), hD' _⟩, by simp [intOf]; omega⟩
    · have hkm : k = xs.length := by omega
      have hS := Sl.of_owns hD.out.1 (by have := outTo_len s xs k; omega)
      have hb' := k1.trans (hD.out.2.mono k1.size)
      have hF : FarB w.heap.size _ := fun a n c e => Nat.le_trans k1.size (FarB.of_owns hD.out.1 a n c e)
      have hP := Lib.hid (show min (sumTo xs k) s = min (debtSum xs) s by rw [hkm, sumTo_all])
      rw [hkm] at hS
      clear hkm hD F P
      go_wp2
      go_ret3
      exact ⟨_, retT3 hP.out, hS, hb', hF⟩

theorem Recover_any (v : Value) (xs : List ADebt) (t bp : Int) (w : World) (h : Sl w v 2 xs.length (xs.flatMap ADebt.cells)) :
    Calls Try.prog 83 #[v, I t, I bp] w (GrewSl3 2 (recL xs t bp).length ((recL xs t bp).flatMap ADebt.cells) (recP xs t bp) (recE xs t bp) w) := by
  by_cases hok : recOk xs t bp = true
  · have hok' := hok
    simp only [recOk, Bool.and_eq_true, beq_iff_eq] at hok'
    have e1 : recL xs t bp = outTo (shareA t bp) xs xs.length := by simp [recL, hok]
    have e2 : recP xs t bp = min (debtSum xs) (shareA t bp) := by simp [recP, hok]
    have e3 : recE xs t bp = 0 := by simp [recE, hok'.1, hok'.2]
    rw [e1, e2, e3]
    exact Recover_ok v xs t bp w h hok
  · have e1 : recL xs t bp = [] := by simp [recL, hok]
    have e2 : recP xs t bp = 0 := by simp [recP, hok]
    rw [e1, e2]
    have F := Lib.hid (fun W (hW : Sl W v 2 xs.length (xs.flatMap ADebt.cells)) => fault_any v xs W hW)
    by_cases hE : debtE xs = 0
    · have hs : ¬ shareOk t bp = true := by
        intro hs; exact hok (by simp [recOk, hE, hs])
      have e3 : recE xs t bp = 2 := by simp [recE, hE, hs]
      rw [e3]
      rw [hE] at F
      have hcase : (¬ (0 ≤ t ∧ t ≤ 1000000000000 ∧ 0 ≤ bp ∧ bp ≤ 10000)) ∨ (100000000 < t ∧ t ≤ 1000000000000 ∧ 0 ≤ bp ∧ bp ≤ 10000) := by
        simp only [shareOk, Bool.and_eq_true, inB_true] at hs; omega
      clear e1 e2 e3 hs hok hE
      rcases hcase with hc | ⟨c1, c2, c3, c4⟩
      · have hPE : partE t bp = 2 := by
          have : partOk t bp = false := by
            rw [← Bool.not_eq_true]; simp only [partOk, Bool.and_eq_true, inB_true]; omega
          simp [partE, this]
        have P := Lib.hid (fun W => part_any t bp W)
        rw [hPE] at P
        clear hPE hc
        go_enter Try.func83, Try.ntmps83
        go_wp2_with fail
        refine (F.out _ h).mono ?_
        rintro e w1 ⟨rfl, k1⟩
        go_wp2_with (first | (go_at_call 84; refine (P.out _).mono ?_; rintro e w' ⟨rfl, rfl⟩))
        go_ret3
        exact ⟨_, rfl, Sl.nil _ _, k1, FarB.nil _ _ _⟩
      · have hPE : partE t bp = 0 := by
          have : partOk t bp = true := by simp only [partOk, Bool.and_eq_true, inB_true]; omega
          simp [partE, this]
        have P := Lib.hid (fun W => part_any t bp W)
        rw [hPE] at P
        clear hPE
        go_enter Try.func83, Try.ntmps83
        go_wp2_with fail
        refine (F.out _ h).mono ?_
        rintro e w1 ⟨rfl, k1⟩
        go_wp2_with (first | (go_at_call 84; refine (P.out _).mono ?_; rintro e w' ⟨rfl, rfl⟩))
        go_ret3
        exact ⟨_, rfl, Sl.nil _ _, k1, FarB.nil _ _ _⟩
    · have e3 : recE xs t bp = debtE xs := by simp [recE, hE]
      have hb : (debtE xs != 0) = true := by simp [hE]
      rw [e3]
      clear e1 e2 e3 hok hE
      go_enter Try.func83, Try.ntmps83
      go_wp2_with fail
      refine (F.out _ h).mono ?_
      rintro e w1 ⟨rfl, k1⟩
      go_wp2
      go_ret3
      exact ⟨_, rfl, Sl.nil _ _, k1, FarB.nil _ _ _⟩
end Go.Proofs.Ytcpljkjibhindaa
