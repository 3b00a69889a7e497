/- a region that draws its order, within a round of a loop over a function: operations that leave memory alone are walked once, in the order of the text -/
import Derived.Sort.QuietThIn
import Derived.Sort.BigQuietIn
import Derived.RangeFuncCalls
import Derived.OwnWalkIn
namespace Go.Proofs.Ytcpljkjibhindaa
open Go

def noDefers : List Oper → Bool
  | [] => true
  | o :: r => (match o.op with | .defer _ => false | _ => true) && noDefers r
theorem noDefers_at : ∀ {l : List Oper} {i : Nat} {o : Oper}, noDefers l = true → l[i]? = some o → ∀ c, o.op ≠ .defer c
  | [], _, _, _, h, _ => by simp at h
  | x :: r, 0, o, hn, h, c => by
    simp only [List.getElem?_cons_zero, Option.some.injEq] at h
    subst h
    simp only [noDefers, Bool.and_eq_true] at hn
    intro he
    rw [he] at hn
    exact absurd hn.1 (by simp)
  | x :: r, i + 1, o, hn, h, c => by
    simp only [noDefers, Bool.and_eq_true] at hn
    exact noDefers_at hn.2 (by simpa using h) c
section
variable {F : Fence} {n : Nat} {P : Program} {Q : Exit → Act → World → Prop}
theorem upon_round (l : Nat) {o : Oper} {a : Act} {K : Act → World → Prop} {r : Result Next} (h : o.uponIn F n P a K Q r) : o.uponIn (F.inRound l) n P a K Q r := by
  cases r with
  | ok x w' => cases x <;> exact h
  | halt x w' => cases x <;> exact h
theorem wp_round (l : Nat) {o : Oper} {a : Act} {w : World} {K : Act → World → Prop} (hd : ∀ c, o.op ≠ .defer c) (h : o.wpIn F n P a w K Q) : o.wpIn (F.inRound l) n P a w K Q := by
  unfold Oper.wpIn at *
  refine ⟨h.1, ?_⟩
  have h2 := h.2
  rw [Oper.semAt_plain F _ _ hd] at h2
  rw [Oper.semAt_plain (F.inRound l) _ _ hd]
  exact upon_round l h2
theorem wpOp_round (l : Nat) {ops : List Oper} (hn : noDefers ops = true) {i : Nat} {K : Act → World → Prop} {a : Act} {w : World} (h : wpOpIn F n P ops.toArray Q i K a w) : wpOpIn (F.inRound l) n P ops.toArray Q i K a w := by
  unfold wpOpIn at *
  cases hi : ops.toArray[i]? with
  | none => simpa [hi] using h
  | some o =>
    have hd := noDefers_at hn (by simpa using hi)
    simp only [hi] at h ⊢
    split
    · rename_i hw; simp only [hw, if_true] at h; exact wp_round l hd h
    · rename_i hw; simp only [hw] at h; exact ⟨h.1, h.2⟩
theorem wpAny_round (l : Nat) {md : Region.Mode} {ops : List Oper} (hn : noDefers ops = true) : ∀ (fuel : Nat) (listed : Array Bool) (a : Act) (w : World), wpAnyIn F n P md ops.toArray Q fuel listed a w → wpAnyIn (F.inRound l) n P md ops.toArray Q fuel listed a w
  | 0, _, _, _, h => h
  | fuel + 1, _, _, _, h => ⟨h.1, fun i hi => wpOp_round l hn (wpOpIn_mono (fun a w => wpAny_round l hn fuel _ a w) (h.2 i hi))⟩
theorem region_round (l : Nat) {id : Nat} {a : Act} {w : World} {ops : List Oper} (hro : F.round = none) (hm : P.follows .mixedOrders = true) (hB : Region.lexB .any ops.toArray = true) (hn : noDefers ops = true)
    (h : wpQuietIn F n P ops.toArray (fun w' => ∃ n, w' = w.drewN n) (fun a' => ∀ w', (∃ n, w' = w.drewN n) → Q .normal a' w') ops a) : (Code.region id ops.toArray true).wpIn (F.inRound l) n P Q a w := by
  simp only [Region.lexB, Bool.and_eq_true] at hB
  refine wpIn_region_any hm (wpAny_round l hn _ _ _ _ (wpAnyIn_of_quiet (Q := fun a' => ∀ w', (∃ n, w' = w.drewN n) → Q .normal a' w') hro (fun _ w' hw' h => h w' hw') _ _ _ _ ⟨1, rfl⟩ ?_))
  have := wpAnyQIn_lex (F := F) (n := n) (C := fun w' => ∃ n, w' = w.drewN n) (md := .any) hB.1 ops 0 (Array.replicate ops.length false) a (by simp) (by simpa using hB.2) h
  simpa using this
end
end Go.Proofs.Ytcpljkjibhindaa
