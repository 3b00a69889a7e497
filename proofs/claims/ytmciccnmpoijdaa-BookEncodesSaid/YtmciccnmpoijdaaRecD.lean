/- a region that draws its order and holds recover: every order that can be drawn -/
import Derived.Recover
import Derived.Orders
import Derived.Test.YtmciccnmpoijdaaBase
namespace Go.Proofs.Ytmciccnmpoijdaa
open Go
set_option maxRecDepth 20000

/-- all orders that can be drawn from here on -/
def allOrders (md : Region.Mode) (ops : Array Oper) : Nat → Array Bool → List (List Nat)
  | 0, _ => [[]]
  | fuel + 1, listed => if Region.ready md ops listed = [] then [[]] else (Region.ready md ops listed).flatMap fun i => (allOrders md ops fuel (listed.setIfInBounds i true)).map (i :: ·)

theorem order_mem (md : Region.Mode) (ops : Array Oper) : ∀ (fuel t : Nat) (listed : Array Bool), Region.linearise.go md ops fuel t listed [] ∈ allOrders md ops fuel listed := by
  intro fuel
  induction fuel with
  | zero => intro t listed; simp [Region.linearise.go, allOrders]
  | succ fuel ih =>
    intro t listed
    simp only [Region.linearise.go, allOrders]
    change (match (Region.ready md ops listed)[t % (Region.ready md ops listed).length]? with
      | some i => Region.linearise.go md ops fuel (t / (Region.ready md ops listed).length) (listed.setIfInBounds i true) [i]
      | none => [].reverse) ∈ _
    cases hi : (Region.ready md ops listed)[t % (Region.ready md ops listed).length]? with
    | none =>
      have hnil : Region.ready md ops listed = [] := by
        cases hr : Region.ready md ops listed with
        | nil => rfl
        | cons x xs =>
          rw [hr] at hi
          have hlt : t % (x :: xs).length < (x :: xs).length := Nat.mod_lt _ (by simp)
          simp at hi
          simp at hlt
          omega
      simp [hnil]
    | some i =>
      have hne : Region.ready md ops listed ≠ [] := fun h => by rw [h] at hi; simp at hi
      simp only [if_neg hne]
      rw [linearise_go_acc, List.reverse_singleton, List.singleton_append]
      exact List.mem_flatMap.2 ⟨i, List.mem_of_getElem? hi, List.mem_map.2 ⟨_, ih _ _, rfl⟩⟩

section
variable {P : Program} {ops : Array Oper} {Q : Exit → Act → List Frame → World → Prop} {a : Act} {cs : List Frame} {w : World}
theorem wpS_draw {id : Nat} (L : List (List Nat)) (hm : P.follows .mixedOrders = true) (hL : allOrders .any ops ops.size (Array.replicate ops.size false) = L)
    (h : ∀ l ∈ L, wpOpsS P ops Q l a cs { w with drawn := w.drawn + 1 }) : (Code.region id ops true).wpS P Q a cs w := by
  intro b k hb hr
  have hl : Region.schedule (P.follows .mixedOrders) ops (w.tape w.drawn (.order b.fn id)) ∈ L := by
    rw [← hL]
    simp only [Region.schedule, hm, Bool.true_or, if_true]
    exact order_mem _ _ _ _ _
  obtain ⟨e, a', cs', w', q, r⟩ := wp_opsS _ a cs _ (h _ hl) b k hb hr
  exact ⟨e, a', cs', w', q, .of_steps (.one step_region_draw) r⟩
end
end Go.Proofs.Ytmciccnmpoijdaa
