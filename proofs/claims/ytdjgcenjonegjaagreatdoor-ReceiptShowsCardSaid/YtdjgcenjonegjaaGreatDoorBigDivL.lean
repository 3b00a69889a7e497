/- great numbers: division: plain laws, and the short ways -/
import Derived.Test.YtdjgcenjonegjaaGreatDoorPk15
import Derived.Test.YtdjgcenjonegjaaGreatDoorBigLen
import Derived.Test.YtdjgcenjonegjaaGreatDoorBigLeft
import Derived.Test.YtdjgcenjonegjaaGreatDoorBigRight
import Derived.Deep.RegionWith
set_option maxRecDepth 20000
set_option maxHeartbeats 8000000
set_option linter.unusedSimpArgs false
set_option linter.unusedVariables false
namespace Go.Proofs.YtdjgcenjonegjaaGreatDoor
open Go.RowKit

theorem val_inj : ∀ {l r : List Nat}, l.length = r.length → allW l → allW r → val l = val r → l = r
  | [], [], _, _, _, _ => rfl
  | [], _ :: _, h, _, _, _ => by simp at h
  | _ :: _, [], h, _, _, _ => by simp at h
  | a :: l, b :: r, h, hl, hr, hv => by
    have ha := hl a (by simp)
    have hb := hr b (by simp)
    simp only [val] at hv
    have h1 : a = b := by omega
    have h2 : val l = val r := by omega
    rw [h1, val_inj (by simpa using h) (fun x hx => hl x (by simp [hx])) (fun x hx => hr x (by simp [hx])) h2]
theorem can_unique {l r : List Nat} {n : Nat} (h : Can l n) (k : Can r n) : l = r := by
  refine val_inj ?_ h.2.1 k.2.1 (h.1.trans k.1.symm); have h1 : ¬ l.length < r.length := fun hlt => Nat.lt_irrefl _ (can_longer h k hlt); have h2 : ¬ r.length < l.length := fun hlt => Nat.lt_irrefl _ (can_longer k h hlt); omega
theorem can_pow31 {l : List Nat} {p : Nat} (h : Can l (2147483648 * 4294967296 ^ p)) : l.length = p + 1 ∧ (∀ i, i < p → l.getD i 0 = 0) ∧ l.getD p 0 = 2147483648 := by
  have hc : Can (List.replicate p 0 ++ [2147483648]) (2147483648 * 4294967296 ^ p) := by
    refine ⟨?_, ?_, ?_⟩
    · rw [val_append, val_replicate, List.length_replicate]; simp [val, Nat.mul_comm]
    · intro d hd
      simp only [List.mem_append, List.mem_replicate, List.mem_singleton] at hd; omega
    · intro k hk
      have : k = p := by simp at hk; omega
      subst this; rw [List.getD_eq_getElem?_getD, List.getElem?_append_right (by simp)]; simp
  obtain rfl := can_unique h hc; refine ⟨by simp, fun i hi => ?_, ?_⟩
  · rw [List.getD_eq_getElem?_getD, List.getElem?_append_left (by simpa using hi)]
    simp [hi]
  · rw [List.getD_eq_getElem?_getD, List.getElem?_append_right (by simp)]
    simp
theorem can_one {l : List Nat} {n : Nat} (h : Can l n) (h0 : 0 < n) (h1 : n < 4294967296) : l = [n] :=
  can_unique h ⟨by simp [val], by intro d hd; simp at hd; omega, by intro k hk; simp at hk; subst hk; simp; omega⟩

/-- the quotient and the rest, in new memory -/
def GrewQR (q r : Nat) (w : World) (e : Ending) (w' : World) : Prop := ∃ v1 v2, e = .returned (T2 v1 v2) ∧ Abs w' v1 q ∧ Abs w' v2 r ∧ Below w.heap.size w w'

theorem div_less (va vb : Value) (n m : Nat) (w : World) (hA : Abs w va n) (hB : Abs w vb m) (hn : n < 4294967296 ^ 240) (hm : 0 < m) (h : n < m) : Calls Tryz.prog 107 #[va, vb] w (GrewQR (n / m) (n % m) w) := by
  have C := Lib.hid (cmp_any va vb n m w hA hB); rw [cmpI_lt h] at C; have Tw := Lib.hid (fun W hW => twin_any va n W hW (Nat.lt_of_lt_of_le hn (Nat.pow_le_pow_right (by decide) (by decide)))); rw [Nat.div_eq_of_lt h, Nat.mod_eq_of_lt h]; have HA := hA; obtain ⟨lb, hB, cb⟩ := hB
  have hl0 : lb.length ≠ 0 := by
    intro h; have := cb.1; rw [List.length_eq_zero_iff.1 h] at this; simp [val] at this; omega
  have t1 : ((lb.length : Int) == 0) = false := by rw [beq_eq_false_iff_ne]; omega
  obtain ⟨la, hA, ca⟩ := hA; obtain ⟨a, cap, rfl, -⟩ := hA; obtain ⟨a2, cap2, rfl, -⟩ := hB; have HH := Lib.hid HA; clear ca cb HA h hm hn; go_enter Tryz.func107, Tryz.ntmps107
  go_wp2_with fail
  refine C.out.mono ?_; rintro e w1 ⟨rfl, k1⟩
  go_wp2_with fail
  refine (Tw.out _ (HH.out.below k1)).mono ?_; rintro e w2 ⟨v, rfl, h2, k2⟩; go_wp2; go_ret2; exact ⟨_, _, rfl, ⟨[], Sl.nil _ _, rfl, by simp [allW], by simp⟩, h2, k1.trans (k2.mono k1.size)⟩

theorem div_two (va vb : Value) (n m : Nat) (w : World) (hA : Abs w va n) (hB : Abs w vb m) (hn : n < 18446744073709551616) (hm : 0 < m) (h : m ≤ n) : Calls Tryz.prog 107 #[va, vb] w (GrewQR (n / m) (n % m) w) := by
  have C := Lib.hid (cmp_any va vb n m w hA hB); have P1 := Lib.hid (fun W hW => plain_any va n W hW hn); have P2 := Lib.hid (fun W hW => plain_any vb m W hW (by omega)); have W1 := Lib.hid (fun W => words_big (n / m) W (Nat.lt_of_le_of_lt (Nat.div_le_self _ _) hn)); have W2 := Lib.hid (fun W => words_big (n % m) W (Nat.lt_of_le_of_lt (Nat.mod_le _ _) hn)); have hc : 0 ≤ cmpI n m := by unfold cmpI; split <;> (try split) <;> omega
  have HA := Lib.hid hA; have HB := Lib.hid hB; obtain ⟨lb, hB, cb⟩ := hB
  have hl0 : lb.length ≠ 0 := by
    intro h; have := cb.1; rw [List.length_eq_zero_iff.1 h] at this; simp [val] at this; omega
  have t1 : ((lb.length : Int) == 0) = false := by rw [beq_eq_false_iff_ne]; omega
  obtain ⟨la, hA, ca⟩ := hA; have hl2 := can_len (k := 2) ca (by simpa using hn); have t2 : (la.length : Int) ≤ 2 := by omega
  obtain ⟨a, cap, rfl, -⟩ := hA; obtain ⟨a2, cap2, rfl, -⟩ := hB; have e1 : (n : Int) / (m : Int) = ((n / m : Nat) : Int) := rfl; have e2 : (n : Int) % (m : Int) = ((n % m : Nat) : Int) := rfl; have hq : n / m < 18446744073709551616 := Nat.lt_of_le_of_lt (Nat.div_le_self _ _) hn; have hr : n % m < 18446744073709551616 := Nat.lt_of_le_of_lt (Nat.mod_le _ _) hn; have hm0 : ¬ (m : Int) = 0 := by omega
  have hm1 : (m : Int) < 18446744073709551616 := by omega
  generalize n / m = Q at *; generalize n % m = R at *; generalize cmpI n m = cc at *; have e3 : IntKind.u64.wrap (Q : Int) = (Q : Int) := by show (Q : Int) % 18446744073709551616 = _; omega
  have e4 : IntKind.u64.wrap (R : Int) = (R : Int) := by show (R : Int) % 18446744073709551616 = _; omega
  have e5 : (n : Int).tdiv (m : Int) = (Q : Int) := e1; have e6 : (n : Int).tmod (m : Int) = (R : Int) := e2; have X := Lib.hid (And.intro e1 (And.intro e2 (And.intro e3 (And.intro e4 (And.intro e5 (And.intro e6 hm0)))))); clear ca cb h hl0 e1 e2 hq hr hm0 hm1 hn e3 e4 e5 e6; go_enter Tryz.func107, Tryz.ntmps107
  go_wp2_with fail
  refine C.out.mono ?_; rintro e w1 ⟨rfl, k1⟩
  go_wp2_with fail
  refine (P1.out _ (HA.out.below k1)).mono ?_; rintro e w' ⟨rfl, rfl⟩
  go_wp2_with fail
  refine (P2.out _ (HB.out.below k1)).mono ?_; rintro e w' ⟨rfl, rfl⟩; obtain ⟨e1, e2, e3, e4, e5, e6, hm0⟩ := X.out; clear X P1 P2 C HA HB; go_wp2
  go_region_with (first
    | ((with_reducible refine (W1.out _).mono ?_); rintro e wQ ⟨vQ, rfl, hQ, kQ⟩; have kC : Below w.heap.size w wQ := Below.trans (by first | assumption | (apply Below.drew; assumption)) (kQ.mono (Below.size (by first | assumption | (apply Below.drew; assumption)))))
    | ((with_reducible refine (W2.out _).mono ?_); rintro e wR ⟨vR, rfl, hR, kR⟩; have kC : Below w.heap.size w wR := Below.trans (by first | assumption | (apply Below.drew; assumption)) (kR.mono (Below.size (by first | assumption | (apply Below.drew; assumption))))))
  all_goals
    go_wp2; go_ret2
    first
      | exact ⟨_, _, rfl, hQ.below kR, hR, kC⟩
      | exact ⟨_, _, rfl, hQ, hR.below kQ, kC⟩

theorem div_one (va vb : Value) (n m : Nat) (w : World) (hA : Abs w va n) (hB : Abs w vb m) (hn : n < 4294967296 ^ 240) (hm : 0 < m) (hm1 : m < 4294967296) (hb : 18446744073709551616 ≤ n) : Calls Tryz.prog 107 #[va, vb] w (GrewQR (n / m) (n % m) w) := by
  have C := Lib.hid (cmp_any va vb n m w hA hB); have Sm := Lib.hid (fun W hW => small_any va n m W hW (Nat.lt_of_lt_of_le hn (Nat.pow_le_pow_right (by decide) (by decide))) hm hm1); have hc : 0 ≤ cmpI n m := by unfold cmpI; split <;> (try split) <;> omega
  have hr : n % m < 4294967296 := Nat.lt_trans (Nat.mod_lt _ hm) hm1; have Tr := Lib.hid (fun v W (hW : Sl W v 1 [n % m].length (wcells [n % m])) => trim_any v [n % m] W hW (by intro d hd; simp at hd; omega)); have hv1 : val [n % m] = n % m := by simp [val]
  rw [hv1] at Tr; have HA := Lib.hid hA; obtain ⟨lb, hB, cb⟩ := hB; obtain rfl := can_one cb hm hm1; obtain ⟨la, hA, ca⟩ := hA
  have hl2 : 2 < la.length := by
    refine Decidable.byContradiction fun h => ?_
    have := can_lt ca (show la.length ≤ 2 by omega); simp at this; omega
  have t2 : ¬ (la.length : Int) ≤ 2 := by omega
  obtain ⟨a, cap, rfl, -⟩ := hA; obtain ⟨a2, cap2, rfl, hn2, hll, h02, hr2⟩ := hB; obtain ⟨b2, off2, rfl, hb2, hcell⟩ := hr2.resolve_left (by simp); have eb := hcell 0 (by simp [wcells]); simp only [wcells, List.map_cons, List.map_nil, List.getD_cons_zero, Nat.add_zero] at eb; generalize cmpI n m = cc at *; clear ca cb hl2 hcell hr2 hll h02 hb hv1 hn; go_enter Tryz.func107, Tryz.ntmps107
  go_wp2_with fail
  refine C.out.mono ?_; rintro e w1 ⟨rfl, k1⟩; have eb1 := (k1.cell (p := ⟨b2, off2, none⟩) hb2).trans eb
  go_wp2_with fail
  refine (Sm.out _ (HA.out.below k1)).mono ?_; rintro e w2 ⟨v, rfl, h2, k2⟩
  have HS : Hid (Sl (w2.alloc (.cells #[U32 ((n % m : Nat) : Int)] 84)) (.slice (some ⟨w2.heap.size, 0, none⟩) 1 1) 1 [n % m].length (wcells [n % m])) :=
    Sl.of_owns (owns_lit w2 (wcells [n % m]) 84 1 1 rfl (by unfold maxLen; omega)) (by simp)
  have k := k1.trans (k2.mono k1.size); have h3 := h2.below (boxed_below w2 (.cells #[U32 ((n % m : Nat) : Int)] 84)); obtain ⟨l3, s3, c3⟩ := h3; obtain ⟨a3, cap3, rfl, -⟩ := id s3; have H3 := Lib.hid (⟨l3, s3, c3⟩ : Abs (w2.alloc (.cells #[U32 ((n % m : Nat) : Int)] 84)) (.slice a3 l3.length cap3) (n / m)); generalize n % m = R at *; clear s3 c3 h2 k1 k2 eb1
  go_wp2_with fail
  refine (Tr.out _ _ HS.out).mono ?_; rintro e w3 ⟨v', rfl, hA, rfl⟩; go_wp2; go_ret2; exact ⟨_, _, rfl, H3.out, hA, k.alloc k.size _⟩
end Go.Proofs.YtdjgcenjonegjaaGreatDoor
