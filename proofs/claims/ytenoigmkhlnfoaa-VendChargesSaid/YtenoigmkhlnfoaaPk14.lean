/- debt.Recover and its reference · a range over a function that stores into one block of its own (Bf) between two rounds; a body that goes on, or breaks off -/
import Derived.Test.YtenoigmkhlnfoaaPk13
import Derived.Test.YtenoigmkhlnfoaaAgeF
import Derived.RangeFuncFrom
import Derived.RangeFuncBound
namespace Go.Proofs.Ytenoigmkhlnfoaa
set_option linter.unusedSimpArgs false
set_option linter.unusedVariables false
open Go.RowKit
set_option maxRecDepth 20000
/-- the call returns a slice that reads as cs, in new memory, and two numbers -/
def GrewSl3 (sz n : Nat) (cs : List Value) (p k : Int) (w : World) (e : Ending) (w' : World) : Prop := ∃ v, e = .returned (T3 v (I p) (I k)) ∧ Sl w' v sz n cs ∧ Below w.heap.size w w' ∧ FarB w.heap.size v

def leftOf (s ahead : Int) (d : ADebt) : Int := min d.owed (ahead + d.owed - s)
def outTo (s : Int) (xs : List ADebt) (k : Nat) : List ADebt := (List.range k).filterMap fun i => if 0 < leftOf s (sumTo xs i) (xs.getD i default) then some ⟨leftOf s (sumTo xs i) (xs.getD i default), (xs.getD i default).bp⟩ else none
theorem outTo_len (s : Int) (xs : List ADebt) (k : Nat) : (outTo s xs k).length ≤ k := by
  unfold outTo
  exact Nat.le_trans (List.length_filterMap_le _ _) (by simp)
theorem outTo_no {s : Int} {xs : List ADebt} {k : Nat} (h : ¬ 0 < leftOf s (sumTo xs k) (xs.getD k default)) : outTo s xs (k + 1) = outTo s xs k := by
  unfold outTo
  rw [List.range_succ, List.filterMap_append]
  simp only [List.filterMap_cons, List.filterMap_nil, if_neg h, List.append_nil]
theorem outTo_yes {s : Int} {xs : List ADebt} {k : Nat} (h : 0 < leftOf s (sumTo xs k) (xs.getD k default)) : outTo s xs (k + 1) = outTo s xs k ++ [⟨leftOf s (sumTo xs k) (xs.getD k default), (xs.getD k default).bp⟩] := by
  unfold outTo
  rw [List.range_succ, List.filterMap_append]
  simp only [List.filterMap_cons, List.filterMap_nil, if_pos h]

def recOk (xs : List ADebt) (t bp : Int) : Bool := debtE xs == 0 && shareOk t bp
def recE (xs : List ADebt) (t bp : Int) : Int := if debtE xs = 0 then (if shareOk t bp then 0 else 2) else debtE xs
def recL (xs : List ADebt) (t bp : Int) : List ADebt := if recOk xs t bp then outTo (shareA t bp) xs xs.length else []
def recP (xs : List ADebt) (t bp : Int) : Int := if recOk xs t bp then min (debtSum xs) (shareA t bp) else 0

/-- the relation of both loops -/
def RcvRel (w : World) (s : Int) (xs : List ADebt) (k : Nat) (v : Value) (wr : World) : Prop :=
  wr.ownsRow w.heap.size 60 2 v (outTo s xs k).length ((outTo s xs k).flatMap ADebt.cells) ∧ Below w.heap.size w wr

theorem retT3 {v : Value} {a b k : Int} (h : a = b) : Ending.returned (T3 v (I a) (I k)) = .returned (T3 v (I b) (I k)) := by rw [h]
theorem RcvRel.keep {w : World} {s : Int} {xs : List ADebt} {k : Nat} {v : Value} {wr : World} (hD : RcvRel w s xs k v wr) (h : outTo s xs (k + 1) = outTo s xs k) (c : Obj) : Hid (RcvRel w s xs (k + 1) v (wr.alloc c)) :=
  ⟨by rw [h]; exact hD.1.alloc _, hD.2.alloc hD.2.size _⟩

set_option maxHeartbeats 2000000 in
theorem Recover_ok (v : Value) (xs : List ADebt) (t bp : Int) (w : World) (h : Sl w v 2 xs.length (xs.flatMap ADebt.cells)) (hok : recOk xs t bp = true) :
    Calls Try.prog 118 #[v, I t, I bp] w (GrewSl3 2 (outTo (shareA t bp) xs xs.length).length ((outTo (shareA t bp) xs xs.length).flatMap ADebt.cells) (min (debtSum xs) (shareA t bp)) 0 w) := by
  obtain ⟨i0, hi, hz0, hz1, hz2⟩ := info_parts infoDebt
  simp only [recOk, Bool.and_eq_true, beq_iff_eq] at hok
  obtain ⟨hE, hs⟩ := hok
  obtain ⟨h8, hall⟩ := debtE_zero hE
  have F := Lib.hid (fun W (hW : Sl W v 2 xs.length (xs.flatMap ADebt.cells)) => fault_any v xs W hW)
  rw [hE] at F
  have hs' := hs
  simp only [shareOk, Bool.and_eq_true, inB_true] at hs'
  obtain ⟨⟨t0, t1⟩, p0, p1⟩ := hs'
  have hSA : shareA t bp = partA t bp := by simp [shareA, hs]
  have hPE : partE t bp = 0 := by
    have : partOk t bp = true := by simp [partOk, inB_true]; omega
    simp [partE, this]
  have P := Lib.hid (fun W => part_any t bp W)
  rw [hPE] at P
  have hpb := partA_bd t bp
  have hpl := partA_le t bp t0
  rw [hSA]
  have Hall := Lib.hid hall
  clear hSA hPE hs hE hall
  generalize partA t bp = s at *
  go_enter Try.func118, Try.ntmps118
  go_wp2_with fail
  refine (F.out _ h).mono ?_
  rintro e w0 ⟨rfl, k1⟩
  have h1 := h.below k1
  obtain ⟨a, cap, rfl, hn, hl, h0, h1⟩ := h1
  clear h hl h0
  go_wp2_with (first | (go_at_call 119; refine (P.out _).mono ?_; rintro e w' ⟨rfl, rfl⟩))
  go_loopw [12, 13, 36] (fun p v i wr => ∃ k : Nat, k ≤ xs.length ∧ i = I k ∧ p = I (min (sumTo xs k) s) ∧ Hid (RcvRel w0 s xs k v wr)) (fun _ _ i _ => xs.length - (intOf i).toNat)
  case atStart => exact ⟨0, Nat.zero_le _, rfl, eI (by simp [sumTo]; omega), World.ownsRow_nil _ _ _ _, Below.refl _ _⟩
  case round =>
    obtain ⟨k, hk, rfl, rfl, hD⟩ := hrel
    obtain ⟨s0, s1⟩ := sumTo_bd Hall.out k hk
    by_cases hlt : k < xs.length
    · obtain ⟨hown, hbw⟩ := hD.out
      have hsz := hbw.size
      have hdl := outTo_len s xs k
      obtain ⟨b, off, rfl, hb, hc⟩ := h1.resolve_left (by omega)
      obtain ⟨e0, e1⟩ := elDebt hb hc hbw k hlt
      obtain ⟨q0, q1, q2, q3⟩ := okDebt_true.1 (okAt Hall.out hlt)
      have hs := Lib.hid (sumTo_succ hlt)
      have hy := Lib.hid (fun hh => outTo_yes (s := s) (xs := xs) (k := k) hh)
      have hno := Lib.hid (fun hh => outTo_no (s := s) (xs := xs) (k := k) hh)
      have hi0 : (0 : Int) ≤ (k : Int) := by omega
      have hi1 : (k : Int) < (xs.length : Int) := by omega
      clear hc h1
      generalize xs.getD k default = x at *
      have m0 : 0 ≤ min (sumTo xs k) s := by omega
      have m1 : min (sumTo xs k) s ≤ s := by omega
      have A1 := Lib.hid (show x.owed ≤ s - min (sumTo xs k) s → outTo s xs (k + 1) = outTo s xs k from fun h => hno.out (by unfold leftOf; omega))
      have A2 := Lib.hid (show x.owed ≤ s - min (sumTo xs k) s → min (sumTo xs k) s + x.owed = min (sumTo xs (k + 1)) s from fun h => by rw [hs.out]; omega)
      have B1 := Lib.hid (show s - min (sumTo xs k) s < x.owed → outTo s xs (k + 1) = outTo s xs k ++ [⟨x.owed - (s - min (sumTo xs k) s), x.bp⟩] from fun h => by
        have e : leftOf s (sumTo xs k) x = x.owed - (s - min (sumTo xs k) s) := by unfold leftOf; omega
        rw [hy.out (by rw [e]; omega), e])
      have B2 := Lib.hid (show s - min (sumTo xs k) s < x.owed → min (sumTo xs k) s + (s - min (sumTo xs k) s) = min (sumTo xs (k + 1)) s from fun h => by rw [hs.out]; omega)
      clear hs hy hno F P s0 s1
      generalize min (sumTo xs k) s = q at *
      by_cases hv : s - q < x.owed
      · have H1 := Lib.hid (B1.out hv)
        have H2 := Lib.hid (B2.out hv)
        clear A1 A2 B1 B2
        have hownB := hown.alloc (.cells #[I (x.owed - (s - q)), I x.bp] 60)
        have hbwB := hbw.alloc hsz (.cells #[I (x.owed - (s - q)), I x.bp] 60)
        have hszB := hbwB.size
        have hlt0 : 0 < x.owed - (s - q) := by omega
        go_wp2_with (skip; (at_builtin; refine wpList_append_own _ rfl _ _ 77 rfl w0.heap.size 60 i0 (.agg #[.int .i64 0, .int .i64 0]) 2 16 Try.underlying77 hi hz0 hz1 hz2 rfl (by decide) _ _ _ rfl (hownB.alloc _) ⟨(wr.heap.size + 1), 0, none⟩ 1 1 [I (x.owed - (s - q)), I x.bp] rfl rfl (news_at _ (size_alloc1 _ _) [I (x.owed - (s - q)), I x.bp] _) (oneCells_lit rfl) (by unfold maxLen; omega) (by omega) (by simp; omega) ?_; intro v' w1 hown' hgrow _))
        have hbel := grown_below (hbwB.alloc hszB _) (hownB.alloc _) (Nat.le_refl _) hgrow
        have hD' : Hid (RcvRel w0 s xs (k + 1) v' w1) := by
          refine ⟨?_, hbel⟩
          rw [H1.out, List.length_append, ← cells_appD]
          exact hown'
        clear hown hown' hgrow hbel hbw hD hownB hbwB
        go_wp2
        exact ⟨⟨k + 1, by omega, by go_num, eI (by rw [H2.out]), hD'⟩, by simp [intOf]; omega⟩
      · have hv' : x.owed ≤ s - q := by omega
        have H1 := Lib.hid (A1.out hv')
        have H2 := Lib.hid (A2.out hv')
        clear A1 A2 B1 B2
        have hD' := fun c => RcvRel.keep hD.out H1.out c
        clear hown hbw hD
        go_wp2
        exact ⟨⟨k + 1, by omega, by go_num, eI (by rw [H2.out]), hD' _⟩, by simp [intOf]; omega⟩
    · have hkm : k = xs.length := by omega
      have hS := Sl.of_owns hD.out.1 (by have := outTo_len s xs k; omega)
      have hb' := k1.trans (hD.out.2.mono k1.size)
      have hF : FarB w.heap.size _ := fun a n c e => Nat.le_trans k1.size (FarB.of_owns hD.out.1 a n c e)
      have hP := Lib.hid (show min (sumTo xs k) s = min (debtSum xs) s by rw [hkm, sumTo_all])
      rw [hkm] at hS
      clear hkm hD F P
      go_wp2
      go_ret3
      exact ⟨_, retT3 hP.out, hS, hb', hF⟩

theorem Recover_any (v : Value) (xs : List ADebt) (t bp : Int) (w : World) (h : Sl w v 2 xs.length (xs.flatMap ADebt.cells)) :
    Calls Try.prog 118 #[v, I t, I bp] w (GrewSl3 2 (recL xs t bp).length ((recL xs t bp).flatMap ADebt.cells) (recP xs t bp) (recE xs t bp) w) := by
  by_cases hok : recOk xs t bp = true
  · have hok' := hok
    simp only [recOk, Bool.and_eq_true, beq_iff_eq] at hok'
    have e1 : recL xs t bp = outTo (shareA t bp) xs xs.length := by simp [recL, hok]
    have e2 : recP xs t bp = min (debtSum xs) (shareA t bp) := by simp [recP, hok]
    have e3 : recE xs t bp = 0 := by simp [recE, hok'.1, hok'.2]
    rw [e1, e2, e3]
    exact Recover_ok v xs t bp w h hok
  · have e1 : recL xs t bp = [] := by simp [recL, hok]
    have e2 : recP xs t bp = 0 := by simp [recP, hok]
    rw [e1, e2]
    have F := Lib.hid (fun W (hW : Sl W v 2 xs.length (xs.flatMap ADebt.cells)) => fault_any v xs W hW)
    by_cases hE : debtE xs = 0
    · have hs : ¬ shareOk t bp = true := by
        intro hs; exact hok (by simp [recOk, hE, hs])
      have e3 : recE xs t bp = 2 := by simp [recE, hE, hs]
      rw [e3]
      rw [hE] at F
      have hcase : (¬ (0 ≤ t ∧ t ≤ 1000000000000 ∧ 0 ≤ bp ∧ bp ≤ 10000)) ∨ (100000000 < t ∧ t ≤ 1000000000000 ∧ 0 ≤ bp ∧ bp ≤ 10000) := by
        simp only [shareOk, Bool.and_eq_true, inB_true] at hs; omega
      clear e1 e2 e3 hs hok hE
      rcases hcase with hc | ⟨c1, c2, c3, c4⟩
      · have hPE : partE t bp = 2 := by
          have : partOk t bp = false := by
            rw [← Bool.not_eq_true]; simp only [partOk, Bool.and_eq_true, inB_true]; omega
          simp [partE, this]
        have P := Lib.hid (fun W => part_any t bp W)
        rw [hPE] at P
        clear hPE hc
        go_enter Try.func118, Try.ntmps118
        go_wp2_with fail
        refine (F.out _ h).mono ?_
        rintro e w1 ⟨rfl, k1⟩
        go_wp2_with (first | (go_at_call 119; refine (P.out _).mono ?_; rintro e w' ⟨rfl, rfl⟩))
        go_ret3
        exact ⟨_, rfl, Sl.nil _ _, k1, FarB.nil _ _ _⟩
      · have hPE : partE t bp = 0 := by
          have : partOk t bp = true := by simp only [partOk, Bool.and_eq_true, inB_true]; omega
          simp [partE, this]
        have P := Lib.hid (fun W => part_any t bp W)
        rw [hPE] at P
        clear hPE
        go_enter Try.func118, Try.ntmps118
        go_wp2_with fail
        refine (F.out _ h).mono ?_
        rintro e w1 ⟨rfl, k1⟩
        go_wp2_with (first | (go_at_call 119; refine (P.out _).mono ?_; rintro e w' ⟨rfl, rfl⟩))
        go_ret3
        exact ⟨_, rfl, Sl.nil _ _, k1, FarB.nil _ _ _⟩
    · have e3 : recE xs t bp = debtE xs := by simp [recE, hE]
      have hb : (debtE xs != 0) = true := by simp [hE]
      rw [e3]
      clear e1 e2 e3 hok hE
      go_enter Try.func118, Try.ntmps118
      go_wp2_with fail
      refine (F.out _ h).mono ?_
      rintro e w1 ⟨rfl, k1⟩
      go_wp2
      go_ret3
      exact ⟨_, rfl, Sl.nil _ _, k1, FarB.nil _ _ _⟩
end Go.Proofs.Ytenoigmkhlnfoaa
namespace Go.Proofs.Ytenoigmkhlnfoaa
set_option linter.unusedSimpArgs false
set_option linter.unusedVariables false
open Go Go.RowKit
set_option maxRecDepth 20000

/-- W' is W with whatever more, and with no block turned but Bf and, from B on, those that are no cells -/
def Turned (B Bf : Nat) {β : Type} (J : β → World → Prop) : Prop :=
  ∀ s W W' row, J s W → W.grownBy W' row → (∀ r, row = some r → r = Bf ∨ B ≤ r ∧ ∃ o, W.heap[r]? = some o ∧ o.isCells = false) → J s W'
def SeqStore {α : Type} (F : Fence) (n : Nat) (P : Program) (g : Nat) (lb : Array Value) (encs : α → Array Value) (Kp : World → World → Prop) (Bf : Nat) (S Sp : List α → Prop) (w : World) : Prop :=
  ∀ (l : Nat) (J Jx : List α → World → Prop) (W : World), Below w.heap.size w W → Turned W.heap.size Bf J → Turned W.heap.size Bf Jx →
    (∀ pre x W1, J pre W1 → Sp (pre ++ [x]) → YieldAt F (n - 1) P l (encs x) W1 fun e W' =>
      (e = .returned (.bool true) ∧ J (pre ++ [x]) W' ∧ Kp W1 W') ∨ (e = .returned (.bool false) ∧ Jx (pre ++ [x]) W')) →
    J [] W →
    CallsIn F n P g (#[.func (.yield l) #[] #[]] ++ lb) W fun e W' => (∃ v, e = .returned v) ∧ ((∃ xs, S xs ∧ J xs W') ∨ (∃ pre, Sp pre ∧ Jx pre W'))
/-- how a round's body may be left -/
def roundOut {α : Type} (Kp : World → World → Prop) (I : List α → World → Prop) (Ix : Nat → List α → World → Prop) (xs : List α) (W : World) : Exit → Act → World → Prop
  | .normal, _, W' => KeepsOthers W W' ∧ Kp W W' ∧ I xs W'
  | .exit id, _, W' => KeepsOthers W W' ∧ Ix id xs W'
  | .ret, _, _ => False
  | .goto _, _, _ => False
  | .panic _, _, _ => False
  | .outgrown, _, _ => False

theorem grown_put (W : World) (l : Nat) (o : Obj) : W.grownBy (W.putObj l o) (some l) := grownBy_putObj' W l o

section
variable {F : Fence} {n : Nat} {P : Program}
theorem range_store {α : Type} {g : Operand} {ps : Array Tmp} {assign body : Code} {Q : Exit → Act → World → Prop} {a : Act} {w : World} (hro : F.round = none) (h1 : 1 ≤ n)
    {gf : Nat} {lb : Array Value} (hg : a.eval g = .func (.func gf) #[] lb) (hFg : F.fn gf) (eg : ∀ args w, (callFunc gf args).run P w = .ok (.enter gf args) w)
    {encs : α → Array Value} {Kp : World → World → Prop} {Bf : Nat} {S Sp : List α → Prop} (hBf : Bf < w.heap.size) (hseq : SeqStore F (n - 1) P gf lb encs Kp Bf S Sp w)
    (hKt : ∀ {A B C : World}, Kp A B → Kp B C → Kp A C) (hKb : ∀ (W : World) (l : Nat) (o' : Obj), w.heap.size ≤ l → (∃ o : Obj, W.heap[l]? = some o ∧ o.isCells = false) → Kp W (W.putObj l o')) (hps : ∀ x, (encs x).size = ps.size)
    (I : List α → World → Prop) (Ix : Nat → List α → World → Prop) (hI : Turned w.heap.size Bf I) (hIx : ∀ c, Turned w.heap.size Bf (Ix c)) (h0 : I [] w) (a₁ : α → Act)
    (hassign : ∀ (l : Nat) (x : α) (W : World) (K : Act → World → Prop), K (a₁ x) W →
      assign.wpIn (F.inRound l) (n - 1 - 1) P (Exit.then K (fun _ _ _ => False)) { tmps := (ps.zip (encs x)).foldl (fun t (p, v) => t.setIfInBounds p v) a.tmps, defers := [] } W)
    (hbody : ∀ (l : Nat) (pre : List α) (x : α) (W : World), I pre W → Sp (pre ++ [x]) → body.wpIn (F.inRound l) (n - 1 - 1) P (roundOut Kp I Ix (pre ++ [x]) W) (a₁ x) W)
    (hdone : ∀ (D : Nat) (xs : List α) (W : World), w.heap.size ≤ D → S xs → I xs W → W.heap[D]? = some (.deferred (some [])) → Q .normal { a with defers := { target := .collected D, args := #[] } :: a.defers } W)
    (hstop : ∀ (D : Nat) (c : Nat) (pre : List α) (W : World), w.heap.size ≤ D → Sp pre → Ix c pre W → W.heap[D]? = some (.deferred (some [])) → (Code.exit c).wpIn F n P Q { a with defers := { target := .collected D, args := #[] } :: a.defers } W) :
    (Code.rangeFunc g ps assign body).wpIn F n P Q a w := by
  refine wpIn_rangeFunc fun fn hfn => ?_
  rw [hro]
  -- the record, by its state and what is pending
  let R : LoopState → Option Code → Loop := fun st pe => { state := st, pending := pe, fn, tmps := a.tmps, params := ps, assign, body, defers := w.heap.size }
  have hsz0 : (w.alloc (.deferred (some []))).heap.size = w.heap.size + 1 := World.size_alloc w _
  have hnewD : ((w.alloc (.deferred (some []))).alloc (.loop (R .ready none))).heap[w.heap.size]? = some (.deferred (some [])) :=
    (Below.heap_alloc _ _ _ (by rw [hsz0]; exact Nat.lt_succ_self _)).trans (World.alloc_heap_new w _)
  have hnewL : ((w.alloc (.deferred (some []))).alloc (.loop (R .ready none))).heap[w.heap.size + 1]? = some (.loop (R .ready none)) := by
    have := World.alloc_heap_new (w.alloc (.deferred (some []))) (.loop (R .ready none))
    rwa [hsz0] at this
  have hsz1 : ((w.alloc (.deferred (some []))).alloc (.loop (R .ready none))).heap.size = w.heap.size + 2 := by rw [World.size_alloc, hsz0]
  have hbel : Below w.heap.size w ((w.alloc (.deferred (some []))).alloc (.loop (R .ready none))) := ((Below.refl _ w).alloc (Nat.le_refl _) _).alloc (by rw [hsz0]; exact Nat.le_succ _) _
  have hI1 : I [] ((w.alloc (.deferred (some []))).alloc (.loop (R .ready none))) :=
    hI _ _ _ none (hI _ _ _ none h0 (World.grownBy_alloc w _ none) (fun r e => by cases e)) (World.grownBy_alloc _ _ none) (fun r e => by cases e)
  refine ⟨w.heap.size + 1, [{ target := .collected w.heap.size, args := #[] }], ((w.alloc (.deferred (some []))).alloc (.loop (R .ready none))), { target := .fn (.func gf) lb, args := #[.func (.yield (w.heap.size + 1)) #[] #[]] }, ((w.alloc (.deferred (some []))).alloc (.loop (R .ready none))), gf, #[.func (.yield (w.heap.size + 1)) #[] #[]] ++ lb, ((w.alloc (.deferred (some []))).alloc (.loop (R .ready none))),
    run_enterLoop_outer _ _ _ _ _, (by simp only [resolve, hg]; simp [go_sem]), (fun f' hf' => by simp [Target.leads] at hf'; subst hf'; exact hFg), (by simp [invoke, go_sem, eg]), fun _ => h1, ?_⟩
  have keep : ∀ {A B : World} {row : Option Nat}, A.grownBy B row → (∀ r, row = some r → r = Bf ∨ w.heap.size + 2 ≤ r ∧ ∃ o, A.heap[r]? = some o ∧ o.isCells = false) → ∀ {k : Nat} {o : Obj}, w.heap.size ≤ k → k < w.heap.size + 2 → A.heap[k]? = some o → B.heap[k]? = some o := by
    intro A B row hgr hr k o hk0 hk1 hk
    rw [hgr.block k (Array.getElem?_eq_some_iff.1 hk).1 (fun e => by rcases hr k e.symm with h | ⟨h, _⟩ <;> omega)]
    exact hk
  have wide : ∀ {A : World} {row : Option Nat}, (∀ r, row = some r → r = Bf ∨ w.heap.size + 2 ≤ r ∧ ∃ o, A.heap[r]? = some o ∧ o.isCells = false) → ∀ r, row = some r → r = Bf ∨ w.heap.size ≤ r ∧ ∃ o, A.heap[r]? = some o ∧ o.isCells = false := fun h r e => (h r e).imp id fun h => ⟨by omega, h.2⟩
  refine (hseq (w.heap.size + 1) (fun pre W => I pre W ∧ W.heap[w.heap.size + 1]? = some (.loop (R .ready none)) ∧ W.heap[w.heap.size]? = some (.deferred (some [])))
    (fun pre W => ∃ c, Ix c pre W ∧ W.heap[w.heap.size + 1]? = some (.loop (R .done (some (.exit c)))) ∧ W.heap[w.heap.size]? = some (.deferred (some [])))
    ((w.alloc (.deferred (some []))).alloc (.loop (R .ready none))) hbel ?_ ?_ ?_ ⟨hI1, hnewL, hnewD⟩).mono ?_
  · intro s A B row hs hgr hr
    rw [hsz1] at hr
    exact ⟨hI _ _ _ row hs.1 hgr (wide hr), keep hgr hr (by omega) (by omega) hs.2.1, keep hgr hr (by omega) (by omega) hs.2.2⟩
  · rintro s A B row ⟨c, hc, hl, hd⟩ hgr hr
    rw [hsz1] at hr
    exact ⟨c, hIx c _ _ _ row hc hgr (wide hr), keep hgr hr (by omega) (by omega) hl, keep hgr hr (by omega) (by omega) hd⟩
  · rintro pre x W ⟨hi, hl, hd⟩ hlen
    have hlt : w.heap.size + 1 < W.heap.size := (Array.getElem?_eq_some_iff.1 hl).1
    refine ⟨fn, _, assign, body, run_yield hl (hps x), roundIn_of_wpIn hfn (hassign _ x W _ ⟨_, run_beginRound hl rfl, ?_⟩)⟩
    have hi2 : I pre (W.putObj (w.heap.size + 1) (.loop (R .busy none))) := hI _ _ _ _ hi (grown_put W _ _) (fun r e => by cases e; exact .inr ⟨by omega, _, hl, rfl⟩)
    have hl2 : (W.putObj (w.heap.size + 1) (.loop (R .busy none))).heap[w.heap.size + 1]? = some (.loop (R .busy none)) := World.putObj_heap_same hlt
    have hd2 : (W.putObj (w.heap.size + 1) (.loop (R .busy none))).heap[w.heap.size]? = some (.deferred (some [])) := (World.putObj_heap_other (by omega)).trans hd
    have hk2 : Kp W (W.putObj (w.heap.size + 1) (.loop (R .busy none))) := hKb W _ _ (by omega) ⟨_, hl, rfl⟩
    refine wpIn_mono (hbody _ pre x _ hi2 hlen) ?_
    rintro e a3 W3 hp
    cases e with
    | normal =>
      obtain ⟨hko, hkp, hi3⟩ := hp
      have hl3 := hko.same _ _ hl2 rfl
      have hd3 := hko.same _ _ hd2 rfl
      have hlt3 := (Array.getElem?_eq_some_iff.1 hl3).1
      exact ⟨_, _, run_endRound none hl3, .inl ⟨rfl, ⟨hI _ _ _ _ hi3 (grown_put W3 _ _) (fun r e => by cases e; exact .inr ⟨by omega, _, hl3, rfl⟩), World.putObj_heap_same hlt3, (World.putObj_heap_other (by omega)).trans hd3⟩, hKt (hKt hk2 hkp) (hKb W3 _ _ (by omega) ⟨_, hl3, rfl⟩)⟩⟩
    | exit id =>
      obtain ⟨hko, hi3⟩ := hp
      have hl3 := hko.same _ _ hl2 rfl
      have hd3 := hko.same _ _ hd2 rfl
      have hlt3 := (Array.getElem?_eq_some_iff.1 hl3).1
      exact ⟨_, _, run_endRound (some (.exit id)) hl3, .inr ⟨rfl, id, hIx id _ _ _ _ hi3 (grown_put W3 _ _) (fun r e => by cases e; exact .inr ⟨by omega, _, hl3, rfl⟩), World.putObj_heap_same hlt3, (World.putObj_heap_other (by omega)).trans hd3⟩⟩
    | ret => exact hp.elim
    | goto t => exact hp.elim
    | panic c => exact hp.elim
    | outgrown => exact hp.elim
  · rintro e W2 ⟨⟨v, rfl⟩, (⟨xs, hS, hi, hl, hd⟩ | ⟨pre, hSp, c, hi, hl, hd⟩)⟩
    · exact ⟨none, _, run_endLoop hl (by intro h; cases h), hdone _ xs _ (Nat.le_refl _) hS (hI _ _ _ _ hi (grown_put W2 _ _) (fun r e => by cases e; exact .inr ⟨by omega, _, hl, rfl⟩)) ((World.putObj_heap_other (by omega)).trans hd)⟩
    · exact ⟨some (.exit c), _, run_endLoop hl (by intro h; cases h), hstop _ c pre _ (Nat.le_refl _) hSp (hIx c _ _ _ _ hi (grown_put W2 _ _) (fun r e => by cases e; exact .inr ⟨by omega, _, hl, rfl⟩)) ((World.putObj_heap_other (by omega)).trans hd)⟩
end
end Go.Proofs.Ytenoigmkhlnfoaa
