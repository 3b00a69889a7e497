/- merging in place by rotations, as plain laws on arrays: what is sorted by a strict order and how it is kept -/
import Derived.Sort.Lot0
import Derived.Sort.WalkA
import Derived.Sort.LotA
namespace Go.Proofs.Ytdjgcenjonegjaa
open Go.Sort
set_option maxRecDepth 20000
variable {α : Type} [Inhabited α]

def Srt (R : α → α → Prop) (d : Array α) (a b : Nat) : Prop := ∀ i j, a ≤ i → i < j → j < b → R d[i]! d[j]!
def Crs (E : α → α → Prop) (d : Array α) (a m b : Nat) : Prop := ∀ i j, a ≤ i → i < m → m ≤ j → j < b → E d[i]! d[j]!
structure Kpt (d d' : Array α) (a b : Nat) : Prop where
  sz : d'.size = d.size
  out : ∀ i, i < a ∨ b ≤ i → d'[i]! = d[i]!
  back : ∀ i, a ≤ i → i < b → ∃ j, a ≤ j ∧ j < b ∧ d'[i]! = d[j]!
  to : ∀ i, a ≤ i → i < b → ∃ j, a ≤ j ∧ j < b ∧ d[i]! = d'[j]!
theorem Kpt.refl (d : Array α) (a b : Nat) : Kpt d d a b := ⟨rfl, fun _ _ => rfl, fun i h1 h2 => ⟨i, h1, h2, rfl⟩, fun i h1 h2 => ⟨i, h1, h2, rfl⟩⟩
theorem Kpt.trans {d d1 d2 : Array α} {a b : Nat} (h : Kpt d d1 a b) (k : Kpt d1 d2 a b) : Kpt d d2 a b :=
  ⟨k.sz.trans h.sz, fun i hi => (k.out i hi).trans (h.out i hi),
   fun i h1 h2 => by obtain ⟨j, p, q, e⟩ := k.back i h1 h2; obtain ⟨l, p', q', e'⟩ := h.back j p q; exact ⟨l, p', q', e.trans e'⟩,
   fun i h1 h2 => by obtain ⟨j, p, q, e⟩ := h.to i h1 h2; obtain ⟨l, p', q', e'⟩ := k.to j p q; exact ⟨l, p', q', e.trans e'⟩⟩
theorem Kpt.wide {d d1 : Array α} {a b a' b' : Nat} (h : Kpt d d1 a b) (ha : a' ≤ a) (hb : b ≤ b') : Kpt d d1 a' b' :=
  ⟨h.sz, fun i hi => h.out i (by omega),
   fun i h1 h2 => by
    by_cases c : a ≤ i ∧ i < b
    · obtain ⟨j, p, q, e⟩ := h.back i c.1 c.2; exact ⟨j, by omega, by omega, e⟩
    · exact ⟨i, h1, h2, h.out i (by omega)⟩,
   fun i h1 h2 => by
    by_cases c : a ≤ i ∧ i < b
    · obtain ⟨j, p, q, e⟩ := h.to i c.1 c.2; exact ⟨j, by omega, by omega, e⟩
    · exact ⟨i, h1, h2, (h.out i (by omega)).symm⟩⟩
/-- what holds of all that lies in a range is kept -/
theorem Kpt.all {d d1 : Array α} {a b : Nat} (h : Kpt d d1 a b) (p : α → Prop) (hp : ∀ i, a ≤ i → i < b → p d[i]!) : ∀ i, a ≤ i → i < b → p d1[i]! := by
  intro i h1 h2; obtain ⟨j, x, y, e⟩ := h.back i h1 h2; rw [e]; exact hp j x y
theorem Crs.kept {E : α → α → Prop} {d d1 : Array α} {a m b : Nat} (h : Crs E d a m b) (k1 : Kpt d d1 a m) : Crs E d1 a m b := by
  intro i j h1 h2 h3 h4
  rw [k1.out j (Or.inr h3)]
  exact k1.all (fun x => E x d[j]!) (fun i' a1 a2 => h i' j a1 a2 h3 h4) i h1 h2
theorem Crs.kept' {E : α → α → Prop} {d d1 : Array α} {a m b : Nat} (h : Crs E d a m b) (k1 : Kpt d d1 m b) : Crs E d1 a m b := by
  intro i j h1 h2 h3 h4
  rw [k1.out i (Or.inl h2)]
  exact k1.all (fun x => E d[i]! x) (fun j' a1 a2 => h i j' h1 h2 a1 a2) j h3 h4
theorem Srt.out {R : α → α → Prop} {d d1 : Array α} {a b u v : Nat} (h : Srt R d a b) (k : Kpt d d1 u v) (ho : b ≤ u ∨ v ≤ a) : Srt R d1 a b := by
  intro i j h1 h2 h3
  rw [k.out i (by omega), k.out j (by omega)]; exact h i j h1 h2 h3
theorem Crs.out {E : α → α → Prop} {d d1 : Array α} {a m b u v : Nat} (h : Crs E d a m b) (k : Kpt d d1 u v) (ho : b ≤ u ∨ v ≤ a) : Crs E d1 a m b := by
  intro i j h1 h2 h3 h4
  rw [k.out i (by omega), k.out j (by omega)]; exact h i j h1 h2 h3 h4
theorem Srt.part {R : α → α → Prop} {d : Array α} {a b a' b' : Nat} (h : Srt R d a b) (ha : a ≤ a') (hb : b' ≤ b) : Srt R d a' b' := fun i j h1 h2 h3 => h i j (by omega) h2 (by omega)
theorem Srt.join {R : α → α → Prop} {d : Array α} {a m b : Nat} (h : Srt R d a m) (k : Srt R d m b) (c : Crs R d a m b) : Srt R d a b := by
  intro i j h1 h2 h3
  by_cases c1 : j < m
  · exact h i j h1 h2 c1
  · by_cases c2 : m ≤ i
    · exact k i j c2 h2 h3
    · exact c i j h1 (by omega) (by omega) h3
theorem Srt.none {R : α → α → Prop} {d : Array α} {a b : Nat} (h : b ≤ a + 1) : Srt R d a b := fun i j _ _ _ => by omega

/-! ### rotations -/
structure Rot (d d' : Array α) (a m b : Nat) : Prop where
  sz : d'.size = d.size
  out : ∀ i, i < a ∨ b ≤ i → d'[i]! = d[i]!
  lo : ∀ i, a ≤ i → i < a + (b - m) → d'[i]! = d[i + (m - a)]!
  hi : ∀ i, a + (b - m) ≤ i → i < b → d'[i]! = d[i - (b - m)]!
theorem Rot.none (d : Array α) (a m b : Nat) (ha : a ≤ m) (hb : m ≤ b) (h : a = m ∨ m = b) : Rot d d a m b :=
  ⟨rfl, fun _ _ => rfl, fun i h1 h2 => by rw [show i + (m - a) = i by omega], fun i h1 h2 => by rw [show i - (b - m) = i by omega]⟩
theorem Rot.kept {d d' : Array α} {a m b : Nat} (h : Rot d d' a m b) (ha : a ≤ m) (hb : m ≤ b) : Kpt d d' a b :=
  ⟨h.sz, h.out,
   fun i h1 h2 => by
    by_cases c : i < a + (b - m)
    · exact ⟨_, by omega, by omega, h.lo i h1 c⟩
    · exact ⟨_, by omega, by omega, h.hi i (by omega) h2⟩,
   fun i h1 h2 => by
    by_cases c : i < m
    · exact ⟨i + (b - m), by omega, by omega, by rw [h.hi (i + (b - m)) (by omega) (by omega), Nat.add_sub_cancel]⟩
    · exact ⟨i - (m - a), by omega, by omega, by rw [h.lo (i - (m - a)) (by omega) (by omega), Nat.sub_add_cancel (by omega)]⟩⟩

/-- two stretches exchanged -/
structure Swr (d d' : Array α) (x y n : Nat) : Prop where
  sz : d'.size = d.size
  l : ∀ p, p < n → d'[x + p]! = d[y + p]!
  r : ∀ p, p < n → d'[y + p]! = d[x + p]!
  out : ∀ i, i < x ∨ x + n ≤ i → i < y ∨ y + n ≤ i → d'[i]! = d[i]!
theorem Swr.none (d : Array α) (x y : Nat) : Swr d d x y 0 := ⟨rfl, fun _ h => by omega, fun _ h => by omega, fun _ _ _ => rfl⟩
theorem Swr.step {d dk : Array α} {x y k : Nat} (h : Swr d dk x y k) (hx : x + k < y) (hy : y + k < d.size) : Swr d (swp dk (x + k) (y + k)) x y (k + 1) := by
  have hs := h.sz
  have G := swp_get dk (i := x + k) (j := y + k) (by omega) (by omega)
  refine ⟨by rw [size_swp]; exact hs, fun p hp => ?_, fun p hp => ?_, fun i h1 h2 => ?_⟩
  · by_cases c : p = k
    · subst c; rw [G, if_neg (by omega), if_pos rfl, h.out (y + p) (by omega) (by omega)]
    · rw [G, if_neg (by omega), if_neg (by omega)]; exact h.l p (by omega)
  · by_cases c : p = k
    · subst c; rw [G, if_pos rfl, h.out (x + p) (by omega) (by omega)]
    · rw [G, if_neg (by omega), if_neg (by omega)]; exact h.r p (by omega)
  · rw [G, if_neg (by omega), if_neg (by omega)]; exact h.out i (by omega) (by omega)

theorem Rot.of_gt {d d1 d' : Array α} {m i j : Nat} (hi : i ≤ m) (hj : j < i) (h : Swr d d1 (m - i) m j) (k : Rot d1 d' (m - (i - j)) m (m + j)) : Rot d d' (m - i) m (m + j) := by
  refine ⟨k.sz.trans h.sz, fun p hp => (k.out p (by omega)).trans (h.out p (by omega) (by omega)), fun p h1 h2 => ?_, fun p h1 h2 => ?_⟩
  · rw [k.out p (by omega)]
    have := h.l (p - (m - i)) (by omega)
    rw [show m - i + (p - (m - i)) = p by omega] at this
    rw [this]; congr 1; omega
  · by_cases c : p < m - (i - j) + (m + j - m)
    · rw [k.lo p (by omega) c]
      have := h.r (p + (m - (m - (i - j))) - m) (by omega)
      rw [show m + (p + (m - (m - (i - j))) - m) = p + (m - (m - (i - j))) by omega] at this
      rw [this]; congr 1; omega
    · rw [k.hi p (by omega) (by omega), h.out _ (by omega) (by omega)]
theorem Rot.of_lt {d d1 d' : Array α} {m i j : Nat} (hi : i ≤ m) (hj : i < j) (h : Swr d d1 (m - i) (m + j - i) i) (k : Rot d1 d' (m - i) m (m + (j - i))) : Rot d d' (m - i) m (m + j) := by
  refine ⟨k.sz.trans h.sz, fun p hp => (k.out p (by omega)).trans (h.out p (by omega) (by omega)), fun p h1 h2 => ?_, fun p h1 h2 => ?_⟩
  · by_cases c : p < m - i + (m + (j - i) - m)
    · rw [k.lo p h1 c, h.out _ (by omega) (by omega)]
    · by_cases e : p < m + (j - i)
      · rw [k.hi p (by omega) e]
        have := h.l (p - (m + (j - i) - m) - (m - i)) (by omega)
        rw [show m - i + (p - (m + (j - i) - m) - (m - i)) = p - (m + (j - i) - m) by omega] at this
        rw [this]; congr 1; omega
      · omega
  · rw [k.out p (by omega)]
    have := h.r (p - (m + j - i)) (by omega)
    rw [show m + j - i + (p - (m + j - i)) = p by omega] at this
    rw [this]; congr 1; omega
theorem Rot.of_eq {d d1 : Array α} {m i : Nat} (hi : i ≤ m) (h : Swr d d1 (m - i) m i) : Rot d d1 (m - i) m (m + i) := by
  refine ⟨h.sz, fun p hp => h.out p (by omega) (by omega), fun p h1 h2 => ?_, fun p h1 h2 => ?_⟩
  · have := h.l (p - (m - i)) (by omega)
    rw [show m - i + (p - (m - i)) = p by omega] at this
    rw [this]; congr 1; omega
  · have := h.r (p - m) (by omega)
    rw [show m + (p - m) = p by omega] at this
    rw [this]; congr 1; omega
/-- one element on to the right -/
theorem Rot.up {d dk : Array α} {a k : Nat} (h : Rot d dk a (a + 1) (k + 1)) (ha : a ≤ k) (hk : k + 1 < d.size) : Rot d (swp dk k (k + 1)) a (a + 1) (k + 2) := by
  have hs := h.sz
  have G := swp_get dk (i := k) (j := k + 1) (by omega) (by omega)
  have hk1 : dk[k]! = d[a]! := by rw [h.hi k (by omega) (by omega)]; congr 1; omega
  refine ⟨by rw [size_swp]; exact hs, fun p hp => ?_, fun p h1 h2 => ?_, fun p h1 h2 => ?_⟩
  · rw [G, if_neg (by omega), if_neg (by omega)]; exact h.out p (by omega)
  · by_cases c : p = k
    · subst c; rw [G, if_neg (by omega), if_pos rfl, h.out (p + 1) (by omega)]; congr 1; omega
    · rw [G, if_neg (by omega), if_neg c]; rw [h.lo p h1 (by omega)]
  · have : p = k + 1 := by omega
    subst this
    rw [G, if_pos rfl, hk1]; congr 1; omega
/-- one element on to the left -/
theorem Rot.down {d dk : Array α} {k m : Nat} (h : Rot d dk (k + 1) m (m + 1)) (hk : k + 1 ≤ m) (hm : m < d.size) : Rot d (swp dk (k + 1) k) k m (m + 1) := by
  have hs := h.sz
  have G := swp_get dk (i := k + 1) (j := k) (by omega) (by omega)
  have hk1 : dk[k + 1]! = d[m]! := by rw [h.lo (k + 1) (by omega) (by omega)]; congr 1; omega
  refine ⟨by rw [size_swp]; exact hs, fun p hp => ?_, fun p h1 h2 => ?_, fun p h1 h2 => ?_⟩
  · rw [G, if_neg (by omega), if_neg (by omega)]; exact h.out p (by omega)
  · have : p = k := by omega
    subst this
    rw [G, if_pos rfl, hk1]; congr 1; omega
  · by_cases c : p = k + 1
    · subst c; rw [G, if_neg (by omega), if_pos rfl, h.out k (by omega)]; congr 1; omega
    · rw [G, if_neg (by omega), if_neg c, h.hi p (by omega) (by omega)]

/-! ### the merge -/
structure Mrg (R : α → α → Prop) (d d' : Array α) (a b : Nat) : Prop where
  k : Kpt d d' a b
  s : Srt R d' a b
/-- one element ahead is put in its place -/
theorem merge_one {R : α → α → Prop} (tr : ∀ x y z, R x y → R y z → R x z) {d d' : Array α} {a b i : Nat} (hR : Srt R d (a + 1) b) (hi : a + 1 ≤ i) (hb : i ≤ b)
    (lo : i = a + 1 ∨ R d[i - 1]! d[a]!) (hi' : i = b ∨ R d[a]! d[i]!) (r : Rot d d' a (a + 1) i) : Mrg R d d' a b := by
  refine ⟨(r.kept (by omega) hi).wide (Nat.le_refl _) hb, fun p q h1 h2 h3 => ?_⟩
  have lo' : ∀ t, a + 1 ≤ t → t < i → R d[t]! d[a]! := fun t t1 t2 => by
    rcases lo with e | e
    · omega
    · by_cases c : t = i - 1
      · subst c; exact e
      · exact tr _ _ _ (hR t (i - 1) t1 (by omega) (by omega)) e
  have hi2 : ∀ t, i ≤ t → t < b → R d[a]! d[t]! := fun t t1 t2 => by
    rcases hi' with e | e
    · omega
    · by_cases c : t = i
      · subst c; exact e
      · exact tr _ _ _ e (hR i t (by omega) (by omega) (by omega))
  have A : ∀ t, a ≤ t → t < i - 1 → d'[t]! = d[t + 1]! := fun t t1 t2 => by rw [r.lo t t1 (by omega)]; congr 1; omega
  have B : d'[i - 1]! = d[a]! := by rw [r.hi (i - 1) (by omega) (by omega)]; congr 1; omega
  have C : ∀ t, i ≤ t → d'[t]! = d[t]! := fun t t1 => r.out t (Or.inr t1)
  by_cases c1 : q < i - 1
  · rw [A p h1 (by omega), A q (by omega) c1]; exact hR _ _ (by omega) (by omega) (by omega)
  · by_cases c2 : q = i - 1
    · subst c2; rw [B, A p h1 h2]; exact lo' _ (by omega) (by omega)
    · rw [C q (by omega)]
      by_cases c3 : p < i - 1
      · rw [A p h1 c3]; exact hR _ _ (by omega) (by omega) h3
      · by_cases c4 : p = i - 1
        · subst c4; rw [B]; exact hi2 _ (by omega) h3
        · rw [C p (by omega)]; exact hR _ _ (by omega) h2 h3
/-- one element behind is put in its place -/
theorem merge_last {R : α → α → Prop} (tr : ∀ x y z, R x y → R y z → R x z) {d d' : Array α} {a m i : Nat} (hL : Srt R d a m) (ha : a ≤ i) (hi : i ≤ m)
    (lo : i = a ∨ R d[i - 1]! d[m]!) (hi' : i = m ∨ R d[m]! d[i]!) (r : Rot d d' i m (m + 1)) : Mrg R d d' a (m + 1) := by
  refine ⟨(r.kept hi (by omega)).wide ha (Nat.le_refl _), fun p q h1 h2 h3 => ?_⟩
  have lo' : ∀ t, a ≤ t → t < i → R d[t]! d[m]! := fun t t1 t2 => by
    rcases lo with e | e
    · omega
    · by_cases c : t = i - 1
      · subst c; exact e
      · exact tr _ _ _ (hL t (i - 1) t1 (by omega) (by omega)) e
  have hi2 : ∀ t, i ≤ t → t < m → R d[m]! d[t]! := fun t t1 t2 => by
    rcases hi' with e | e
    · omega
    · by_cases c : t = i
      · subst c; exact e
      · exact tr _ _ _ e (hL i t (by omega) (by omega) (by omega))
  have A : ∀ t, t < i → d'[t]! = d[t]! := fun t t1 => r.out t (Or.inl t1)
  have B : d'[i]! = d[m]! := by rw [r.lo i (by omega) (by omega)]; congr 1; omega
  have C : ∀ t, i < t → t < m + 1 → d'[t]! = d[t - 1]! := fun t t1 t2 => by rw [r.hi t (by omega) (by omega)]; congr 1; omega
  by_cases c1 : q < i
  · rw [A p (by omega), A q c1]; exact hL _ _ h1 h2 (by omega)
  · by_cases c2 : q = i
    · subst c2; rw [B, A p h2]; exact lo' _ h1 h2
    · rw [C q (by omega) h3]
      by_cases c3 : p < i
      · rw [A p c3]; exact hL _ _ h1 (by omega) (by omega)
      · by_cases c4 : p = i
        · subst c4; rw [B]; exact hi2 _ (by omega) (by omega)
        · rw [C p (by omega) (by omega)]; exact hL _ _ (by omega) (by omega) (by omega)

/-- what the search found, and what comes of the rotation -/
structure Halves (R E : α → α → Prop) (d d1 : Array α) (a s mid e b : Nat) : Prop where
  k : Kpt d d1 a b
  s1 : Srt R d1 a s
  s2 : Srt R d1 s mid
  s3 : Srt R d1 mid e
  s4 : Srt R d1 e b
  c1 : Crs E d1 a s mid
  c2 : Crs E d1 mid e b
  x : Crs R d1 a mid b
theorem halves {R E : α → α → Prop} (tr : ∀ x y z, R x y → R y z → R x z) {d d1 : Array α} {a m b s mid e : Nat} (hL : Srt R d a m) (hR : Srt R d m b) (hE : Crs E d a m b)
    (ha : a ≤ s) (hsm : s ≤ m) (hme : m ≤ e) (heb : e ≤ b) (hmid : mid = s + (e - m))
    (lo : s = a ∨ e = b ∨ R d[s - 1]! d[e]!) (hi : s = m ∨ e = m ∨ R d[e - 1]! d[s]!) (r : Rot d d1 s m e) : Halves R E d d1 a s mid e b := by
  subst hmid
  have A : ∀ t, t < s → d1[t]! = d[t]! := fun t h => r.out t (Or.inl h)
  have B : ∀ t, s ≤ t → t < s + (e - m) → d1[t]! = d[t + (m - s)]! := r.lo
  have C : ∀ t, s + (e - m) ≤ t → t < e → d1[t]! = d[t - (e - m)]! := r.hi
  have D : ∀ t, e ≤ t → d1[t]! = d[t]! := fun t h => r.out t (Or.inr h)
  have lo' : ∀ p q, a ≤ p → p < s → e ≤ q → q < b → R d[p]! d[q]! := fun p q p1 p2 q1 q2 => by
    rcases lo with h | h | h
    · omega
    · omega
    · have h1 : R d[p]! d[e]! := by
        by_cases c : p = s - 1
        · subst c; exact h
        · exact tr _ _ _ (hL p (s - 1) p1 (by omega) (by omega)) h
      by_cases c : q = e
      · subst c; exact h1
      · exact tr _ _ _ h1 (hR e q hme (by omega) q2)
  have hi' : ∀ p q, s ≤ p → p < m → m ≤ q → q < e → R d[q]! d[p]! := fun p q p1 p2 q1 q2 => by
    rcases hi with h | h | h
    · omega
    · omega
    · have h1 : R d[e - 1]! d[p]! := by
        by_cases c : p = s
        · subst c; exact h
        · exact tr _ _ _ h (hL s p (by omega) (by omega) p2)
      by_cases c : q = e - 1
      · subst c; exact h1
      · exact tr _ _ _ (hR q (e - 1) q1 (by omega) (by omega)) h1
  refine ⟨(r.kept hsm hme).wide ha heb, ?_, ?_, ?_, ?_, ?_, ?_, ?_⟩
  · intro i j h1 h2 h3; rw [A i (by omega), A j h3]; exact hL i j h1 h2 (by omega)
  · intro i j h1 h2 h3; rw [B i h1 (by omega), B j (by omega) h3]; exact hR _ _ (by omega) (by omega) (by omega)
  · intro i j h1 h2 h3; rw [C i h1 (by omega), C j (by omega) h3]; exact hL _ _ (by omega) (by omega) (by omega)
  · intro i j h1 h2 h3; rw [D i h1, D j (by omega)]; exact hR _ _ (by omega) h2 h3
  · intro i j h1 h2 h3 h4; rw [A i h2, B j h3 h4]; exact hE _ _ h1 (by omega) (by omega) (by omega)
  · intro i j h1 h2 h3 h4; rw [C i h1 h2, D j h3]; exact hE _ _ (by omega) (by omega) (by omega) h4
  · intro i j h1 h2 h3 h4
    by_cases c1 : i < s
    · rw [A i c1]
      by_cases c2 : j < e
      · rw [C j h3 c2]; exact hL _ _ h1 (by omega) (by omega)
      · rw [D j (by omega)]; exact lo' _ _ h1 c1 (by omega) h4
    · rw [B i (by omega) h2]
      by_cases c2 : j < e
      · rw [C j h3 c2]; exact hi' _ _ (by omega) (by omega) (by omega) (by omega)
      · rw [D j (by omega)]; exact hR _ _ (by omega) (by omega) h4
theorem Halves.done {R E : α → α → Prop} {d d1 d2 d3 : Array α} {a s mid e b : Nat} (h : Halves R E d d1 a s mid e b) (h1 : a ≤ mid) (h2 : mid ≤ b)
    (m1 : Mrg R d1 d2 a mid) (m2 : Mrg R d2 d3 mid b) : Mrg R d d3 a b :=
  ⟨h.k.trans ((m1.k.wide (Nat.le_refl _) h2).trans (m2.k.wide h1 (Nat.le_refl _))), (m1.s.out m2.k (Or.inl (Nat.le_refl _))).join m2.s ((h.x.kept m1.k).kept' m2.k)⟩
theorem Mrg.none {R : α → α → Prop} {d : Array α} {a b : Nat} (h : Srt R d a b) : Mrg R d d a b := ⟨Kpt.refl _ _ _, h⟩
theorem Srt.of_ends {R : α → α → Prop} {d : Array α} {a s b : Nat} (h1 : Srt R d a s) (h2 : Srt R d s b) (h : ¬ (a < s ∧ s < b)) (ha : a ≤ s) (hb : s ≤ b) : Srt R d a b := by
  by_cases c : a < s
  · have : s = b := by omega
    subst this; exact h1
  · have : a = s := by omega
    subst this; exact h2

/-! ### insertion -/
def Asc (E : α → α → Prop) (d : Array α) (a b : Nat) : Prop := ∀ i j, a ≤ i → i < j → j < b → E d[i]! d[j]!
theorem insInner_rot {lt : α → α → Bool} {a i : Nat} {d : Array α} (hi : i < d.size) : ∀ (j : Nat) (dk : Array α), a ≤ j → j ≤ i → Rot d dk j i (i + 1) →
    (j = i ∨ lt d[i]! d[j]! = true) → ∃ j', a ≤ j' ∧ j' ≤ i ∧ Rot d (insInner lt a j dk) j' i (i + 1) ∧ (j' = a ∨ lt d[i]! d[j' - 1]! = false) ∧ (j' = i ∨ lt d[i]! d[j']! = true)
  | 0, dk, ha, hj, h, hl => ⟨0, ha, hj, h, Or.inl (by omega), hl⟩
  | j + 1, dk, ha, hj, h, hl => by
    have e1 : dk[j + 1]! = d[i]! := by rw [h.lo (j + 1) (by omega) (by omega)]; congr 1; omega
    have e2 : dk[j]! = d[j]! := h.out j (by omega)
    unfold insInner
    by_cases c : a < j + 1
    · cases hv : lt d[i]! d[j]! with
      | true =>
        rw [e1, e2, hv, if_pos (by simpa using c)]
        exact insInner_rot hi j _ (by omega) (by omega) (h.down (by omega) hi) (Or.inr hv)
      | false =>
        rw [e1, e2, hv, if_neg (by simp)]
        exact ⟨j + 1, ha, hj, h, Or.inr (by simpa using hv), hl⟩
    · rw [if_neg (by simp; omega)]
      exact ⟨j + 1, ha, hj, h, Or.inl (by omega), hl⟩
theorem insOuter_mrg {R E : α → α → Prop} {lt : α → α → Bool} (tr : ∀ x y z, R x y → R y z → R x z) (HE : ∀ x y, E x y → (lt y x = true → R y x) ∧ (lt y x = false → R x y))
    {a b : Nat} {d : Array α} (hb : b ≤ d.size) (hA : Asc E d a b) : ∀ (k i : Nat) (dk : Array α), b - i ≤ k → a < i → i ≤ b → Mrg R d dk a i → (∀ t, i ≤ t → dk[t]! = d[t]!) → Mrg R d (insOuter lt a b i dk) a b
  | k, i, dk, hk, ha, hi, M, ho => by
    by_cases c : i < b
    · rw [insOuter_go _ _ _ _ _ c]
      match k, hk with
      | 0, hk => exact absurd hk (by omega)
      | k + 1, hk =>
        have hs : dk.size = d.size := M.k.sz
        have hEi : ∀ t, a ≤ t → t < i → E dk[t]! dk[i]! := fun t t1 t2 => by
          rw [ho i (Nat.le_refl _)]
          exact M.k.all (fun x => E x d[i]!) (fun p p1 p2 => hA p i p1 p2 c) t t1 t2
        obtain ⟨j, j1, j2, r, l1, l2⟩ := insInner_rot (lt := lt) (a := a) (d := dk) (i := i) (by omega) i dk (by omega) (Nat.le_refl _) (Rot.none _ _ _ _ (Nat.le_refl _) (by omega) (Or.inl rfl)) (Or.inl rfl)
        have M1 : Mrg R dk (insInner lt a i dk) a (i + 1) := merge_last tr M.s j1 j2
          (by by_cases c' : j = a
              · exact Or.inl c'
              · exact Or.inr ((HE _ _ (hEi (j - 1) (by omega) (by omega))).2 (l1.resolve_left c')))
          (by by_cases c' : j = i
              · exact Or.inl c'
              · exact Or.inr ((HE _ _ (hEi j j1 (by omega))).1 (l2.resolve_left c'))) r
        refine insOuter_mrg tr HE hb hA k (i + 1) _ (by omega) (by omega) c ⟨(M.k.wide (Nat.le_refl _) (by omega)).trans M1.k, M1.s⟩ (fun t ht => ?_)
        rw [M1.k.out t (Or.inr ht)]; exact ho t (by omega)
    · have : i = b := by omega
      subst this
      rw [insOuter_stop _ _ _ _ _ c]; exact M
theorem insertion_mrg {R E : α → α → Prop} {lt : α → α → Bool} (tr : ∀ x y z, R x y → R y z → R x z) (HE : ∀ x y, E x y → (lt y x = true → R y x) ∧ (lt y x = false → R x y))
    {a b : Nat} {d : Array α} (hab : a ≤ b) (hb : b ≤ d.size) (hA : Asc E d a b) : Mrg R d (insertionSort lt d a b) a b := by
  by_cases c : a < b
  · exact insOuter_mrg tr HE hb hA (b - (a + 1)) (a + 1) d (Nat.le_refl _) (by omega) c (Mrg.none (Srt.none (by omega))) (fun _ _ => rfl)
  · unfold insertionSort
    rw [insOuter_stop _ _ _ _ _ (by omega)]; exact Mrg.none (Srt.none (by omega))

end Go.Proofs.Ytdjgcenjonegjaa
