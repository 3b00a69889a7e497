/- a range over a function that stores into one block of its own (Bf) between two rounds; a body that goes on, or breaks off -/
import Derived.RangeFuncFrom
import Derived.RangeFuncBound
namespace Go.Proofs.Ytcpljkjibhindaa
open Go Go.RowKit

/-- W' is W with whatever more, and with no block turned but Bf and, from B on, those that are no cells -/
def Turned (B Bf : Nat) {β : Type} (J : β → World → Prop) : Prop :=
  ∀ s W W' row, J s W → W.grownBy W' row → (∀ r, row = some r → r = Bf ∨ B ≤ r ∧ ∃ o, W.heap[r]? = some o ∧ o.isCells = false) → J s W'
def SeqStore {α : Type} (F : Fence) (n : Nat) (P : Program) (g : Nat) (lb : Array Value) (encs : α → Array Value) (Kp : World → World → Prop) (Bf : Nat) (S Sp : List α → Prop) (w : World) : Prop :=
  ∀ (l : Nat) (J Jx : List α → World → Prop) (W : World), Below w.heap.size w W → Turned W.heap.size Bf J → Turned W.heap.size Bf Jx →
    (∀ pre x W1, J pre W1 → Sp (pre ++ [x]) → YieldAt F (n - 1) P l (encs x) W1 fun e W' =>
      (e = .returned (.bool true) ∧ J (pre ++ [x]) W' ∧ Kp W1 W') ∨ (e = .returned (.bool false) ∧ Jx (pre ++ [x]) W')) →
    J [] W →
    CallsIn F n P g (#[.func (.yield l) #[] #[]] ++ lb) W fun e W' => (∃ v, e = .returned v) ∧ ((∃ xs, S xs ∧ J xs W') ∨ (∃ pre, Sp pre ∧ Jx pre W'))
/-- how a round's body may be left -/
def roundOut {α : Type} (Kp : World → World → Prop) (I : List α → World → Prop) (Ix : Nat → List α → World → Prop) (xs : List α) (W : World) : Exit → Act → World → Prop
  | .normal, _, W' => KeepsOthers W W' ∧ Kp W W' ∧ I xs W'
  | .exit id, _, W' => KeepsOthers W W' ∧ Ix id xs W'
  | .ret, _, _ => False
  | .goto _, _, _ => False
  | .panic _, _, _ => False
  | .outgrown, _, _ => False

theorem grown_put (W : World) (l : Nat) (o : Obj) : W.grownBy (W.putObj l o) (some l) := grownBy_putObj' W l o

section
variable {F : Fence} {n : Nat} {P : Program}
theorem range_store {α : Type} {g : Operand} {ps : Array Tmp} {assign body : Code} {Q : Exit → Act → World → Prop} {a : Act} {w : World} (hro : F.round = none) (h1 : 1 ≤ n)
    {gf : Nat} {lb : Array Value} (hg : a.eval g = .func (.func gf) #[] lb) (hFg : F.fn gf) (eg : ∀ args w, (callFunc gf args).run P w = .ok (.enter gf args) w)
    {encs : α → Array Value} {Kp : World → World → Prop} {Bf : Nat} {S Sp : List α → Prop} (hBf : Bf < w.heap.size) (hseq : SeqStore F (n - 1) P gf lb encs Kp Bf S Sp w)
    (hKt : ∀ {A B C : World}, Kp A B → Kp B C → Kp A C) (hKb : ∀ (W : World) (l : Nat) (o' : Obj), w.heap.size ≤ l → (∃ o : Obj, W.heap[l]? = some o ∧ o.isCells = false) → Kp W (W.putObj l o')) (hps : ∀ x, (encs x).size = ps.size)
    (I : List α → World → Prop) (Ix : Nat → List α → World → Prop) (hI : Turned w.heap.size Bf I) (hIx : ∀ c, Turned w.heap.size Bf (Ix c)) (h0 : I [] w) (a₁ : α → Act)
    (hassign : ∀ (l : Nat) (x : α) (W : World) (K : Act → World → Prop), K (a₁ x) W →
      assign.wpIn (F.inRound l) (n - 1 - 1) P (Exit.then K (fun _ _ _ => False)) { tmps := (ps.zip (encs x)).foldl (fun t (p, v) => t.setIfInBounds p v) a.tmps, defers := [] } W)
    (hbody : ∀ (l : Nat) (pre : List α) (x : α) (W : World), I pre W → Sp (pre ++ [x]) → body.wpIn (F.inRound l) (n - 1 - 1) P (roundOut Kp I Ix (pre ++ [x]) W) (a₁ x) W)
    (hdone : ∀ (D : Nat) (xs : List α) (W : World), w.heap.size ≤ D → S xs → I xs W → W.heap[D]? = some (.deferred (some [])) → Q .normal { a with defers := { target := .collected D, args := #[] } :: a.defers } W)
    (hstop : ∀ (D : Nat) (c : Nat) (pre : List α) (W : World), w.heap.size ≤ D → Sp pre → Ix c pre W → W.heap[D]? = some (.deferred (some [])) → (Code.exit c).wpIn F n P Q { a with defers := { target := .collected D, args := #[] } :: a.defers } W) :
    (Code.rangeFunc g ps assign body).wpIn F n P Q a w := by
  refine wpIn_rangeFunc fun fn hfn => ?_
  rw [hro]
  -- the record, by its state and what is pending
  let R : LoopState → Option Code → Loop := fun st pe => { state := st, pending := pe, fn, tmps := a.tmps, params := ps, assign, body, defers := w.heap.size }
  have hsz0 : (w.alloc (.deferred (some []))).heap.size = w.heap.size + 1 := World.size_alloc w _
  have hnewD : ((w.alloc (.deferred (some []))).alloc (.loop (R .ready none))).heap[w.heap.size]? = some (.deferred (some [])) :=
    (Below.heap_alloc _ _ _ (by rw [hsz0]; exact Nat.lt_succ_self _)).trans (World.alloc_heap_new w _)
  have hnewL : ((w.alloc (.deferred (some []))).alloc (.loop (R .ready none))).heap[w.heap.size + 1]? = some (.loop (R .ready none)) := by
    have := World.alloc_heap_new (w.alloc (.deferred (some []))) (.loop (R .ready none))
    rwa [hsz0] at this
  have hsz1 : ((w.alloc (.deferred (some []))).alloc (.loop (R .ready none))).heap.size = w.heap.size + 2 := by rw [World.size_alloc, hsz0]
  have hbel : Below w.heap.size w ((w.alloc (.deferred (some []))).alloc (.loop (R .ready none))) := ((Below.refl _ w).alloc (Nat.le_refl _) _).alloc (by rw [hsz0]; exact Nat.le_succ _) _
  have hI1 : I [] ((w.alloc (.deferred (some []))).alloc (.loop (R .ready none))) :=
    hI _ _ _ none (hI _ _ _ none h0 (World.grownBy_alloc w _ none) (fun r e => by cases e)) (World.grownBy_alloc _ _ none) (fun r e => by cases e)
  refine ⟨w.heap.size + 1, [{ target := .collected w.heap.size, args := #[] }], ((w.alloc (.deferred (some []))).alloc (.loop (R .ready none))), { target := .fn (.func gf) lb, args := #[.func (.yield (w.heap.size + 1)) #[] #[]] }, ((w.alloc (.deferred (some []))).alloc (.loop (R .ready none))), gf, #[.func (.yield (w.heap.size + 1)) #[] #[]] ++ lb, ((w.alloc (.deferred (some []))).alloc (.loop (R .ready none))),
    run_enterLoop_outer _ _ _ _ _, (by simp only [resolve, hg]; simp [go_sem]), (fun f' hf' => by simp [Target.leads] at hf'; subst hf'; exact hFg), (by simp [invoke, go_sem, eg]), fun _ => h1, ?_⟩
  have keep : ∀ {A B : World} {row : Option Nat}, A.grownBy B row → (∀ r, row = some r → r = Bf ∨ w.heap.size + 2 ≤ r ∧ ∃ o, A.heap[r]? = some o ∧ o.isCells = false) → ∀ {k : Nat} {o : Obj}, w.heap.size ≤ k → k < w.heap.size + 2 → A.heap[k]? = some o → B.heap[k]? = some o := by
    intro A B row hgr hr k o hk0 hk1 hk
    rw [hgr.block k (Array.getElem?_eq_some_iff.1 hk).1 (fun e => by rcases hr k e.symm with h | ⟨h, _⟩ <;> omega)]
    exact hk
  have wide : ∀ {A : World} {row : Option Nat}, (∀ r, row = some r → r = Bf ∨ w.heap.size + 2 ≤ r ∧ ∃ o, A.heap[r]? = some o ∧ o.isCells = false) → ∀ r, row = some r → r = Bf ∨ w.heap.size ≤ r ∧ ∃ o, A.heap[r]? = some o ∧ o.isCells = false := fun h r e => (h r e).imp id fun h => ⟨by omega, h.2⟩
  refine (hseq (w.heap.size + 1) (fun pre W => I pre W ∧ W.heap[w.heap.size + 1]? = some (.loop (R .ready none)) ∧ W.heap[w.heap.size]? = some (.deferred (some [])))
    (fun pre W => ∃ c, Ix c pre W ∧ W.heap[w.heap.size + 1]? = some (.loop (R .done (some (.exit c)))) ∧ W.heap[w.heap.size]? = some (.deferred (some [])))
    ((w.alloc (.deferred (some []))).alloc (.loop (R .ready none))) hbel ?_ ?_ ?_ ⟨hI1, hnewL, hnewD⟩).mono ?_
  · intro s A B row hs hgr hr
    rw [hsz1] at hr
    exact ⟨hI _ _ _ row hs.1 hgr (wide hr), keep hgr hr (by omega) (by omega) hs.2.1, keep hgr hr (by omega) (by omega) hs.2.2⟩
  · rintro s A B row ⟨c, hc, hl, hd⟩ hgr hr
    rw [hsz1] at hr
    exact ⟨c, hIx c _ _ _ row hc hgr (wide hr), keep hgr hr (by omega) (by omega) hl, keep hgr hr (by omega) (by omega) hd⟩
  · rintro pre x W ⟨hi, hl, hd⟩ hlen
    have hlt : w.heap.size + 1 < W.heap.size := (Array.getElem?_eq_some_iff.1 hl).1
    refine ⟨fn, _, assign, body, run_yield hl (hps x), roundIn_of_wpIn hfn (hassign _ x W _ ⟨_, run_beginRound hl rfl, ?_⟩)⟩
    have hi2 : I pre (W.putObj (w.heap.size + 1) (.loop (R .busy none))) := hI _ _ _ _ hi (grown_put W _ _) (fun r e => by cases e; exact .inr ⟨by omega, _, hl, rfl⟩)
    have hl2 : (W.putObj (w.heap.size + 1) (.loop (R .busy none))).heap[w.heap.size + 1]? = some (.loop (R .busy none)) := World.putObj_heap_same hlt
    have hd2 : (W.putObj (w.heap.size + 1) (.loop (R .busy none))).heap[w.heap.size]? = some (.deferred (some [])) := (World.putObj_heap_other (by omega)).trans hd
    have hk2 : Kp W (W.putObj (w.heap.size + 1) (.loop (R .busy none))) := hKb W _ _ (by omega) ⟨_, hl, rfl⟩
    refine wpIn_mono (hbody _ pre x _ hi2 hlen) ?_
    rintro e a3 W3 hp
    cases e with
    | normal =>
      obtain ⟨hko, hkp, hi3⟩ := hp
      have hl3 := hko.same _ _ hl2 rfl
      have hd3 := hko.same _ _ hd2 rfl
      have hlt3 := (Array.getElem?_eq_some_iff.1 hl3).1
      exact ⟨_, _, run_endRound none hl3, .inl ⟨rfl, ⟨hI _ _ _ _ hi3 (grown_put W3 _ _) (fun r e => by cases e; exact .inr ⟨by omega, _, hl3, rfl⟩), World.putObj_heap_same hlt3, (World.putObj_heap_other (by omega)).trans hd3⟩, hKt (hKt hk2 hkp) (hKb W3 _ _ (by omega) ⟨_, hl3, rfl⟩)⟩⟩
    | exit id =>
      obtain ⟨hko, hi3⟩ := hp
      have hl3 := hko.same _ _ hl2 rfl
      have hd3 := hko.same _ _ hd2 rfl
      have hlt3 := (Array.getElem?_eq_some_iff.1 hl3).1
      exact ⟨_, _, run_endRound (some (.exit id)) hl3, .inr ⟨rfl, id, hIx id _ _ _ _ hi3 (grown_put W3 _ _) (fun r e => by cases e; exact .inr ⟨by omega, _, hl3, rfl⟩), World.putObj_heap_same hlt3, (World.putObj_heap_other (by omega)).trans hd3⟩⟩
    | ret => exact hp.elim
    | goto t => exact hp.elim
    | panic c => exact hp.elim
    | outgrown => exact hp.elim
  · rintro e W2 ⟨⟨v, rfl⟩, (⟨xs, hS, hi, hl, hd⟩ | ⟨pre, hSp, c, hi, hl, hd⟩)⟩
    · exact ⟨none, _, run_endLoop hl (by intro h; cases h), hdone _ xs _ (Nat.le_refl _) hS (hI _ _ _ _ hi (grown_put W2 _ _) (fun r e => by cases e; exact .inr ⟨by omega, _, hl, rfl⟩)) ((World.putObj_heap_other (by omega)).trans hd)⟩
    · exact ⟨some (.exit c), _, run_endLoop hl (by intro h; cases h), hstop _ c pre _ (Nat.le_refl _) hSp (hIx c _ _ _ _ hi (grown_put W2 _ _) (fun r e => by cases e; exact .inr ⟨by omega, _, hl, rfl⟩)) ((World.putObj_heap_other (by omega)).trans hd)⟩
end
end Go.Proofs.Ytcpljkjibhindaa
