/- what is dealt: each part's share rounded down, and one more to those that come first by what was cut off -/
import Derived.Test.YtdjgcenjonegjaaDealLaw
import Derived.Test.YtdjgcenjonegjaaCentsSum
namespace Go.Proofs.Ytdjgcenjonegjaa
open Go.RowKit
set_option maxRecDepth 20000

def RK (c : Nat → Int) (x y : Nat) : Prop := c y < c x ∨ (c x = c y ∧ x < y)
theorem RK.trans {c : Nat → Int} (x y z : Nat) (h : RK c x y) (k : RK c y z) : RK c x z := by unfold RK at *; omega
theorem RK.irrefl {c : Nat → Int} {x : Nat} (h : RK c x x) : False := by unfold RK at h; omega
theorem RK.asymm {c : Nat → Int} {x y : Nat} (h : RK c x y) (k : RK c y x) : False := (h.trans _ _ _ k).irrefl

/-- a strictly sorted list is told by its members -/
theorem sorted_ext {c : Nat → Int} : ∀ (a b : List Nat), a.Pairwise (RK c) → b.Pairwise (RK c) → (∀ x, x ∈ a ↔ x ∈ b) → a = b
  | [], [], _, _, _ => rfl
  | [], y :: ys, _, _, h => by have := (h y).2 (by simp); cases this
  | x :: xs, [], _, _, h => by have := (h x).1 (by simp); cases this
  | x :: xs, y :: ys, ha, hb, h => by
    rw [List.pairwise_cons] at ha hb
    have e : x = y := by
      have h1 := (h x).1 (by simp)
      have h2 := (h y).2 (by simp)
      rw [List.mem_cons] at h1 h2
      rcases h1 with h1 | h1
      · exact h1
      · rcases h2 with h2 | h2
        · exact h2.symm
        · exact ((ha.1 y h2).asymm (hb.1 x h1)).elim
    subst e
    congr 1
    refine sorted_ext xs ys ha.2 hb.2 (fun z => ?_)
    constructor
    · intro hz
      have := (h z).1 (List.mem_cons_of_mem _ hz)
      rw [List.mem_cons] at this
      rcases this with e | e
      · subst e; exact ((ha.1 _ hz).irrefl).elim
      · exact e
    · intro hz
      have := (h z).2 (List.mem_cons_of_mem _ hz)
      rw [List.mem_cons] at this
      rcases this with e | e
      · subst e; exact ((hb.1 _ hz).irrefl).elim
      · exact e

structure Ord (c : Nat → Int) (n : Nat) (o : List Nat) : Prop where
  len : o.length = n
  srt : o.Pairwise (RK c)
  mem : ∀ i, i ∈ o ↔ i < n
open Classical in
noncomputable def ordO (c : Nat → Int) (n : Nat) : List Nat := if h : ∃ o, Ord c n o then h.choose else []
theorem Ord.eq {c : Nat → Int} {n : Nat} {o : List Nat} (h : Ord c n o) : ordO c n = o := by
  unfold ordO
  rw [dif_pos ⟨o, h⟩]
  have k := (⟨o, h⟩ : ∃ o, Ord c n o).choose_spec
  exact sorted_ext _ _ k.srt h.srt (fun x => (k.mem x).trans (h.mem x).symm)

def bump (xs : List Int) (i : Nat) : List Int := xs.set i (xs.getD i 0 + 1)
theorem bump_len (xs : List Int) (i : Nat) : (bump xs i).length = xs.length := by simp [bump]
def bumps (xs : List Int) (l : List Nat) : List Int := l.foldl bump xs
theorem bumps_len : ∀ (l : List Nat) (xs : List Int), (bumps xs l).length = xs.length
  | [], _ => rfl
  | i :: l, xs => by
    show (bumps (bump xs i) l).length = _
    rw [bumps_len l, bump_len]
theorem bumps_snoc (xs : List Int) (o : List Nat) (k : Nat) (hk : k < o.length) : bumps xs (o.take (k + 1)) = bump (bumps xs (o.take k)) (o.getD k 0) := by
  unfold bumps
  rw [List.take_add_one, List.getElem?_eq_getElem hk, List.foldl_append, List.getD_eq_getElem?_getD, List.getElem?_eq_getElem hk]
  rfl
/-- every element of the bumped list is within what it was and that much more -/
theorem bump_bd {xs : List Int} {i : Nat} {B : Int} (h : ∀ j, 0 ≤ xs.getD j 0 ∧ xs.getD j 0 ≤ B) : ∀ j, 0 ≤ (bump xs i).getD j 0 ∧ (bump xs i).getD j 0 ≤ B + 1 := by
  intro j
  unfold bump
  rw [List.getD_eq_getElem?_getD, List.getElem?_set]
  have h0 := h i
  have h1 := h j
  rw [List.getD_eq_getElem?_getD] at h1
  split
  · split
    · simp only [Option.getD_some]; omega
    · simp only [Option.getD_none]; omega
  · omega
theorem bumps_bd (o : List Nat) {xs : List Int} {B : Int} (h : ∀ j, 0 ≤ xs.getD j 0 ∧ xs.getD j 0 ≤ B) : ∀ (k : Nat), k ≤ o.length → ∀ j, 0 ≤ (bumps xs (o.take k)).getD j 0 ∧ (bumps xs (o.take k)).getD j 0 ≤ B + k
  | 0, _, j => by simpa [bumps] using h j
  | k + 1, hk, j => by
    rw [bumps_snoc _ _ _ hk]
    have := bump_bd (i := o.getD k 0) (bumps_bd o h k (by omega)) j
    constructor
    · exact this.1
    · have := this.2; omega

def inW (n : Int) : Bool := inB n 0 1000000
theorem inW_true {n : Int} : inW n = true ↔ 0 ≤ n ∧ n ≤ 1000000 := inB_true
def baseI (T A w : Int) : Int := T * w / A
def cutI (T A : Int) (ws : List Int) (i : Nat) : Int := T * ws.getD i 0 % A
def baseL (T A : Int) (ws : List Int) : List Int := ws.map (baseI T A)
def leftI (T A : Int) (ws : List Int) (k : Nat) : Int := T - (baseL T A (ws.take k)).sum
noncomputable def dealL (T : Int) (ws : List Int) : List Int := bumps (baseL T ws.sum ws) ((ordO (cutI T ws.sum ws) ws.length).take (leftI T ws.sum ws ws.length).toNat)
def dealE (T : Int) (ws : List Int) : Int := if ws.length < 1 ∨ 50 < ws.length then 1 else if inB T 0 1000000000000 = false ∨ ws.all inW = false then 2 else if ws.sum = 0 then 4 else 0
noncomputable def dealO (T : Int) (ws : List Int) : List Int := if dealE T ws = 0 then dealL T ws else []

theorem sum_bd {ws : List Int} (h : ws.all inW = true) : 0 ≤ ws.sum ∧ ws.sum ≤ 1000000 * (ws.length : Int) := by
  induction ws with
  | nil => simp
  | cons w ws ih =>
    rw [List.all_cons, Bool.and_eq_true] at h
    have := ih h.2
    have h1 := inW_true.1 h.1
    rw [List.sum_cons, List.length_cons]; omega
theorem all_get {ws : List Int} (h : ws.all inW = true) (k : Nat) : 0 ≤ ws.getD k 0 ∧ ws.getD k 0 ≤ 1000000 := by
  rw [List.getD_eq_getElem?_getD]
  by_cases c : k < ws.length
  · rw [List.getElem?_eq_getElem c]
    exact inW_true.1 (List.all_eq_true.1 h _ (List.getElem_mem c))
  · rw [List.getElem?_eq_none (by omega)]; simp
theorem le_sum {ws : List Int} (h : ws.all inW = true) (k : Nat) : ws.getD k 0 ≤ ws.sum := by
  induction ws generalizing k with
  | nil => simp
  | cons w ws ih =>
    rw [List.all_cons, Bool.and_eq_true] at h
    have h1 := inW_true.1 h.1
    have h2 := sum_bd h.2
    rw [List.sum_cons]
    cases k with
    | zero => simp; omega
    | succ k => have := ih h.2 k; rw [List.getD_cons_succ]; omega
theorem base_bd {T A w : Int} (hT : 0 ≤ T ∧ T ≤ 1000000000000) (hA : 0 < A) (hw : 0 ≤ w ∧ w ≤ A) : 0 ≤ baseI T A w ∧ baseI T A w ≤ T := by
  unfold baseI
  constructor
  · exact Int.ediv_nonneg (Int.mul_nonneg hT.1 hw.1) (by omega)
  · have h1 : T * w ≤ T * A := Int.mul_le_mul_of_nonneg_left hw.2 hT.1
    calc T * w / A ≤ T * A / A := Int.ediv_le_ediv hA h1
      _ = T := Int.mul_ediv_cancel _ (by omega)
theorem baseL_len (T A : Int) (ws : List Int) : (baseL T A ws).length = ws.length := by simp [baseL]
theorem baseL_bd {T A : Int} {ws : List Int} (hT : 0 ≤ T ∧ T ≤ 1000000000000) (hA : 0 < A) (h : ∀ k, 0 ≤ ws.getD k 0 ∧ ws.getD k 0 ≤ A) : ∀ j, 0 ≤ (baseL T A ws).getD j 0 ∧ (baseL T A ws).getD j 0 ≤ 1000000000000 := by
  intro j
  by_cases c : j < ws.length
  · have e : (baseL T A ws).getD j 0 = baseI T A (ws.getD j 0) := by
      unfold baseL
      rw [List.getD_eq_getElem?_getD, List.getElem?_map, List.getD_eq_getElem?_getD, List.getElem?_eq_getElem c]; rfl
    have := base_bd hT hA (h j)
    rw [e]; omega
  · rw [List.getD_eq_getElem?_getD, List.getElem?_eq_none (by rw [baseL_len]; omega)]; simp
theorem leftI_succ {T A : Int} {ws : List Int} {k : Nat} (hk : k < ws.length) : leftI T A ws (k + 1) = leftI T A ws k - baseI T A (ws.getD k 0) := by
  unfold leftI baseL
  rw [List.take_add_one, List.getElem?_eq_getElem hk, List.map_append, List.sum_append, List.getD_eq_getElem?_getD, List.getElem?_eq_getElem hk]
  simp
  omega
theorem leftI_bd {T A : Int} {ws : List Int} (hT : 0 ≤ T ∧ T ≤ 1000000000000) (hA : 0 < A) (h : ∀ k, 0 ≤ ws.getD k 0 ∧ ws.getD k 0 ≤ A) : ∀ k, k ≤ ws.length → -1000000000000 * (k : Int) ≤ leftI T A ws k ∧ leftI T A ws k ≤ 1000000000000
  | 0, _ => by simp [leftI, baseL]; omega
  | k + 1, hk => by
    have ih := leftI_bd hT hA h k (by omega)
    have := base_bd hT hA (h k)
    rw [leftI_succ hk]; omega
/-- what is left over is less than one cent a part -/
theorem left_mul {T A : Int} {ws : List Int} (hA : 0 < A) : ∀ (xs : List Int), 0 ≤ T * xs.sum - A * (baseL T A xs).sum ∧ T * xs.sum - A * (baseL T A xs).sum ≤ A * (xs.length : Int)
  | [] => by simp [baseL]
  | x :: xs => by
    have ih := left_mul (ws := ws) (T := T) hA xs
    have e : baseL T A (x :: xs) = baseI T A x :: baseL T A xs := rfl
    have h1 := Int.emod_add_mul_ediv (T * x) A
    have h2 := Int.emod_nonneg (T * x) (show A ≠ 0 by omega)
    have h3 := Int.emod_lt_of_pos (T * x) hA
    rw [e, List.sum_cons, List.sum_cons, List.length_cons, Int.mul_add, Int.mul_add]
    have h4 : ((xs.length + 1 : Nat) : Int) = (xs.length : Int) + 1 := by omega
    rw [h4, Int.mul_add, Int.mul_one]
    have h5 : A * baseI T A x = T * x - T * x % A := by unfold baseI; omega
    omega
theorem left_bd {T : Int} {ws : List Int} (hA : 0 < ws.sum) : 0 ≤ leftI T ws.sum ws ws.length ∧ leftI T ws.sum ws ws.length ≤ (ws.length : Int) := by
  have h := left_mul (ws := ws) (T := T) hA ws
  unfold leftI
  rw [List.take_length]
  have e : T * ws.sum - ws.sum * (baseL T ws.sum ws).sum = ws.sum * (T - (baseL T ws.sum ws).sum) := by rw [Int.mul_sub, Int.mul_comm T]
  rw [e] at h
  constructor
  · exact Int.nonneg_of_mul_nonneg_right (a := ws.sum) h.1 hA
  · exact Int.le_of_mul_le_mul_left h.2 hA

/-! ### the order, as the sort leaves it -/
theorem ord_of {m : Nat} (c : Nat → Int) (d : Array (Fin (m + 1))) (hs : d.size = m + 1) (hS : Srt (fun x y => RK c x.val y.val) d 0 (m + 1)) (hM : ∀ x : Fin (m + 1), ∃ j, j < m + 1 ∧ x = d[j]!) : Ord c (m + 1) (d.toList.map (fun x => x.val)) := by
  have hg : ∀ i (hi : i < d.toList.length), d.toList[i] = d[i]! := fun i hi => by
    rw [Array.getElem_toList]
    exact (getElem!_pos d i (by simpa using hi)).symm
  refine ⟨by simp [hs], ?_, fun i => ?_⟩
  · rw [List.pairwise_map, List.pairwise_iff_getElem]
    intro i j hi hj hij
    rw [hg i hi, hg j hj]
    exact hS i j (Nat.zero_le _) hij (by simpa [hs] using hj)
  · constructor
    · intro h
      obtain ⟨x, _, e⟩ := List.mem_map.1 h
      rw [← e]; exact x.isLt
    · intro h
      obtain ⟨j, hj, e⟩ := hM ⟨i, h⟩
      refine List.mem_map.2 ⟨⟨i, h⟩, ?_, rfl⟩
      rw [e, ← hg j (by simp [hs]; omega)]
      exact List.getElem_mem _

/-! ### the choice of the best -/
/-- who was chosen, after k choices -/
def hadB (o : List Nat) (k i : Nat) : Bool := decide (i ∈ o.take k)
/-- the best of the first i of those that were not chosen yet: -1: none -/
def Bst (c : Nat → Int) (o : List Nat) (k i : Nat) (b : Int) : Prop :=
  (b = -1 ∧ ∀ j, j < i → hadB o k j = true) ∨ ∃ t : Nat, b = t ∧ t < i ∧ hadB o k t = false ∧ ∀ j, j < i → hadB o k j = false → j = t ∨ RK c t j
theorem Bst.zero (c : Nat → Int) (o : List Nat) (k : Nat) : Bst c o k 0 (-1) := Or.inl ⟨rfl, fun j h => by omega⟩
theorem Bst.had {c : Nat → Int} {o : List Nat} {k i : Nat} {b : Int} (h : Bst c o k i b) (hh : hadB o k i = true) : Bst c o k (i + 1) b := by
  rcases h with ⟨h1, h2⟩ | ⟨t, h1, h2, h3, h4⟩
  · refine Or.inl ⟨h1, fun j hj => ?_⟩
    by_cases e : j = i
    · subst e; exact hh
    · exact h2 j (by omega)
  · refine Or.inr ⟨t, h1, by omega, h3, fun j hj hf => ?_⟩
    by_cases e : j = i
    · subst e; rw [hh] at hf; cases hf
    · exact h4 j (by omega) hf
theorem Bst.first {c : Nat → Int} {o : List Nat} {k i : Nat} {b : Int} (h : Bst c o k i b) (hb : b < 0) (hh : hadB o k i = false) : Bst c o k (i + 1) i := by
  rcases h with ⟨h1, h2⟩ | ⟨t, h1, _⟩
  · refine Or.inr ⟨i, rfl, by omega, hh, fun j hj hf => ?_⟩
    by_cases e : j = i
    · exact Or.inl e
    · have := h2 j (by omega); rw [this] at hf; cases hf
  · omega
theorem Bst.more {c : Nat → Int} {o : List Nat} {k i : Nat} {t : Nat} (h : Bst c o k i t) (hc : c t < c i) (hh : hadB o k i = false) : Bst c o k (i + 1) i := by
  rcases h with ⟨h1, h2⟩ | ⟨t', h1, h2, h3, h4⟩
  · omega
  · obtain rfl : t = t' := by omega
    refine Or.inr ⟨i, rfl, by omega, hh, fun j hj hf => ?_⟩
    by_cases e : j = i
    · exact Or.inl e
    · have it : RK c i t := Or.inl hc
      rcases h4 j (by omega) hf with e' | e'
      · subst e'; exact Or.inr it
      · exact Or.inr (it.trans _ _ _ e')
theorem Bst.less {c : Nat → Int} {o : List Nat} {k i : Nat} {t : Nat} (h : Bst c o k i t) (hc : ¬ c t < c i) : Bst c o k (i + 1) t := by
  rcases h with ⟨h1, h2⟩ | ⟨t', h1, h2, h3, h4⟩
  · omega
  · obtain rfl : t = t' := by omega
    refine Or.inr ⟨t, rfl, by omega, h3, fun j hj hf => ?_⟩
    by_cases e : j = i
    · subst e; refine Or.inr ?_; unfold RK; omega
    · exact h4 j (by omega) hf
theorem Bst.at {c : Nat → Int} {o : List Nat} {k i : Nat} {b : Int} (h : Bst c o k i b) : b = -1 ∨ ∃ t : Nat, b = t ∧ t < i := by
  rcases h with h | ⟨t, h1, h2, _⟩
  · exact Or.inl h.1
  · exact Or.inr ⟨t, h1, h2⟩
theorem Bst.done {c : Nat → Int} {o : List Nat} {k n : Nat} {b : Int} (h : Bst c o k n b) (hO : Ord c n o) (hk : k < n) : b = (o.getD k 0 : Nat) ∧ o.getD k 0 < n := by
  have hk' : k < o.length := by rw [hO.len]; exact hk
  have e : o.getD k 0 = o[k] := by rw [List.getD_eq_getElem?_getD, List.getElem?_eq_getElem hk']; rfl
  have hn : o[k] < n := (hO.mem _).1 (List.getElem_mem hk')
  have P := List.pairwise_iff_getElem.1 hO.srt
  have hnot : hadB o k o[k] = false := by
    unfold hadB
    rw [decide_eq_false]
    intro hm
    obtain ⟨p, hp, e'⟩ := List.mem_iff_getElem.1 hm
    rw [List.getElem_take] at e'
    have hpk : p < k := by rw [List.length_take] at hp; omega
    have := P p k (by omega) hk' hpk
    rw [e'] at this; exact this.irrefl
  rw [e]
  refine ⟨?_, hn⟩
  rcases h with ⟨_, h2⟩ | ⟨t, h1, h2, h3, h4⟩
  · rw [h2 _ hn] at hnot; cases hnot
  · rcases h4 _ hn hnot with e' | e'
    · rw [h1, e']
    · obtain ⟨p, hp, ep⟩ := List.mem_iff_getElem.1 ((hO.mem t).2 h2)
      have hpk : k ≤ p := by
        by_cases c : k ≤ p
        · exact c
        · exfalso
          unfold hadB at h3
          rw [decide_eq_false_iff_not] at h3
          apply h3
          rw [← ep]
          exact List.mem_iff_getElem.2 ⟨p, by rw [List.length_take]; omega, by rw [List.getElem_take]⟩
      by_cases c : p = k
      · subst c; rw [h1, ep]
      · have := P k p hk' hp (by omega)
        rw [ep] at this
        exact (this.asymm e').elim
theorem hadB_succ {o : List Nat} {k : Nat} (hk : k < o.length) (i : Nat) : hadB o (k + 1) i = (hadB o k i || decide (i = o.getD k 0)) := by
  have e : o.getD k 0 = o[k] := by rw [List.getD_eq_getElem?_getD, List.getElem?_eq_getElem hk]; rfl
  have m : i ∈ o.take (k + 1) ↔ (i ∈ o.take k ∨ i = o[k]) := by
    rw [List.take_add_one, List.getElem?_eq_getElem hk, List.mem_append]
    simp only [Option.toList_some, List.mem_singleton]
  unfold hadB
  rw [e, decide_eq_decide.2 m, Bool.decide_or]
theorem hadB_zero (o : List Nat) (i : Nat) : hadB o 0 i = false := by simp [hadB]

end Go.Proofs.Ytdjgcenjonegjaa
