/- ref.Aged -/
import Derived.Test.YtjkdngbaidjdmaaDebtAged
import Derived.Test.YtjkdngbaidjdmaaDebtRecovered
namespace Go.Proofs.Ytjkdngbaidjdmaa
open Go.RowKit
set_option maxRecDepth 20000
def ageE (xs : List ADebt) (m : Int) : Int := if debtE xs = 0 then (if inB m 0 2400 then 0 else 2) else debtE xs
def ageL (xs : List ADebt) (m : Int) : List ADebt := if ageOk xs m then xs.map (aged m.toNat) else []
theorem owns_below {w w' : World} {b e sz n : Nat} {v : Value} {cs : List Value} (h : w.ownsRow b e sz v n cs) (hb : Below w.heap.size w w') : w'.ownsRow b e sz v n cs := by
  obtain ⟨hl, h⟩ := h
  refine ⟨hl, h.imp id ?_⟩
  rintro ⟨g, cap, cur, hv, hg, hh, r⟩
  exact ⟨g, cap, cur, hv, hg, (hb.block g (Array.getElem?_eq_some_iff.1 hh).1).trans hh, r⟩

/-- the writes of the words, behind a first one -/
def agedTo (n : Nat) (xs : List ADebt) (k : Nat) : List ADebt := (xs.take k).map (aged n)
theorem agedTo_succ (n : Nat) {xs : List ADebt} {k : Nat} (hk : k < xs.length) : agedTo n xs (k + 1) = agedTo n xs k ++ [aged n (xs.getD k default)] := by
  unfold agedTo
  rw [List.take_add_one, List.map_append, List.getElem?_eq_getElem hk, List.getD_eq_getElem?_getD, List.getElem?_eq_getElem hk]
  simp
theorem agedTo_len (n : Nat) (xs : List ADebt) (k : Nat) : (agedTo n xs k).length ≤ k := by simp [agedTo]; omega
def ARel (w : World) (n : Nat) (xs : List ADebt) (k : Nat) (v : Value) (wr : World) : Prop :=
  wr.ownsRow w.heap.size 63 2 v (agedTo n xs k).length ((agedTo n xs k).flatMap ADebt.cells) ∧ Below w.heap.size w wr
set_option maxHeartbeats 1000000 in
theorem Aged_any (v : Value) (xs : List ADebt) (m : Int) (w : World) (h : Sl w v 2 xs.length (xs.flatMap ADebt.cells)) :
    Calls Try.prog 28 #[v, I m] w (GrewSl2 2 (ageL xs m).length ((ageL xs m).flatMap ADebt.cells) (ageE xs m) w) := by
  have F := Lib.hid (fun W (hW : Sl W v 2 xs.length (xs.flatMap ADebt.cells)) => DebtFault_any v xs W hW)
  by_cases hE : debtE xs = 0
  · rw [hE] at F
    by_cases hm : inB m 0 2400 = true
    · have e1 : ageL xs m = agedTo m.toNat xs xs.length := by simp [ageL, ageOk, hm, hE, agedTo]
      have e3 : ageE xs m = 0 := by simp [ageE, hE, hm]
      rw [e1, e3]
      obtain ⟨h8, hall⟩ := debtE_zero hE
      have Hall := Lib.hid hall
      obtain ⟨m0, m1⟩ := inB_true.1 hm
      obtain ⟨n, rfl⟩ := Int.eq_ofNat_of_zero_le m0
      have hn2 : n ≤ 2400 := by omega
      simp only [Int.toNat_natCast]
      clear e1 e3 hall hE
      obtain ⟨i0, hi, hz0, hz1, hz2⟩ := info_parts infoDebt
      go_enter Try.func28, Try.ntmps28
      go_wp2_with fail
      refine (F.out _ h).mono ?_
      rintro e w1 ⟨rfl, rfl⟩
      obtain ⟨a, cap, rfl, hn, hl, h0, h1⟩ := h
      clear hl h0
      go_wp2_with (go_at_call 46; refine (In_any _ _ _ _).mono ?_; rintro e w' ⟨rfl, rfl⟩)
      go_loopw [7, 8] (fun v i wr => ∃ k : Nat, k ≤ xs.length ∧ i = I k ∧ Hid (ARel w n xs k v wr)) (fun _ i _ => xs.length - (intOf i).toNat)
      case atStart => exact ⟨0, Nat.zero_le _, rfl, World.ownsRow_nil _ _ _ _, Below.refl _ _⟩
      case round =>
        obtain ⟨k, hk, rfl, hD⟩ := hrel
        by_cases hlt : k < xs.length
        · obtain ⟨hown, hbw⟩ := hD.out
          have hsz := hbw.size
          have hdl := agedTo_len n xs k
          obtain ⟨b, off, rfl, hb, hc⟩ := h1.resolve_left (by omega)
          obtain ⟨e0, e1⟩ := elDebt hb hc hbw k hlt
          have hok := okAt Hall.out hlt
          have hs := Lib.hid (agedTo_succ n hlt)
          have hi0 : (0 : Int) ≤ (k : Int) := by omega
          have hi1 : (k : Int) < (xs.length : Int) := by omega
          clear hc h1 F
          generalize xs.getD k default = x at *
          go_wp2_with fail
          refine (aged_any x n _ hok hn2).mono ?_
          rintro e w2 ⟨rfl, k2⟩
          have hown := owns_below hown k2
          have hbw := hbw.trans (k2.mono hsz)
          have hsz := hbw.size
          have hownB := hown.alloc (.cells #[I (ageN x.bp n x.owed), I x.bp] 63)
          have hbwB := hbw.alloc hsz (.cells #[I (ageN x.bp n x.owed), I x.bp] 63)
          have hszB := hbwB.size
          go_wp2_with (skip; (at_builtin; refine wpList_append_own _ rfl _ _ 34 rfl w.heap.size 63 i0 (.agg #[.int .i64 0, .int .i64 0]) 2 16 Try.underlying34 hi hz0 hz1 hz2 rfl (by decide) _ _ _ rfl (hownB.alloc _) ⟨(w2.heap.size + 1), 0, none⟩ 1 1 [I (ageN x.bp n x.owed), I x.bp] rfl rfl (news_at _ (size_alloc1 _ _) [I (ageN x.bp n x.owed), I x.bp] _) (oneCells_lit rfl) (by unfold maxLen; omega) (by omega) (by simp; omega) ?_; intro v' w1 hown' hgrow _))
          have hbel := grown_below (hbwB.alloc hszB _) (hownB.alloc _) (Nat.le_refl _) hgrow
          have hD' : Hid (ARel w n xs (k + 1) v' w1) := by
            refine ⟨?_, hbel⟩
            rw [hs.out, List.length_append, ← cells_appD]
            exact hown'
          clear hown hown' hgrow hbel hbw hD
          go_wp2
          exact ⟨⟨k + 1, by omega, by go_num, hD'⟩, by simp [intOf]; omega⟩
        · have hkm : k = xs.length := by omega
          have hS := Sl.of_owns hD.out.1 (by have := agedTo_len n xs k; omega)
          have hb' := hD.out.2
          rw [hkm] at hS
          clear hkm hD F h1
          go_wp2
          go_ret2
          exact ⟨_, rfl, hS, hb'⟩
    · have e1 : ageL xs m = [] := by simp [ageL, ageOk, hm]
      have e3 : ageE xs m = 2 := by simp [ageE, hE, hm]
      rw [e1, e3]
      simp only [Bool.not_eq_true] at hm
      clear e1 e3
      go_enter Try.func28, Try.ntmps28
      go_wp2_with fail
      refine (F.out _ h).mono ?_
      rintro e w1 ⟨rfl, rfl⟩
      go_wp2_with (go_at_call 46; refine (In_any _ _ _ _).mono ?_; rintro e w' ⟨rfl, rfl⟩)
      go_ret2
      exact ⟨_, rfl, Sl.nil _ _, Below.refl _ _⟩
  · have e1 : ageL xs m = [] := by simp [ageL, ageOk, hE]
    have e3 : ageE xs m = debtE xs := by simp [ageE, hE]
    have hb : (debtE xs != 0) = true := by simp [hE]
    rw [e1, e3]
    clear e1 e3 hE
    go_enter Try.func28, Try.ntmps28
    go_wp2_with fail
    refine (F.out _ h).mono ?_
    rintro e w1 ⟨rfl, rfl⟩
    go_wp2
    go_ret2
    exact ⟨_, rfl, Sl.nil _ _, Below.refl _ _⟩
end Go.Proofs.Ytjkdngbaidjdmaa
