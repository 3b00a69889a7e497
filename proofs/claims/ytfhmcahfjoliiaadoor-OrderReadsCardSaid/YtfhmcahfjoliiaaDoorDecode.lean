/- what an argument's cells say, type by type (made by wip/bin/gen_api.py) -/
import Derived.Test.YtfhmcahfjoliiaaDoorOpen
namespace Go.Proofs.YtfhmcahfjoliiaaDoor
set_option linter.unusedSimpArgs false
set_option linter.unusedVariables false
open Go.ChangeShapes Go.WideShapes Go.ChangeAt Go.RowKit
set_option maxRecDepth 20000

theorem plain_str {w : World} {v : Value} (h : Plain w .str v) : ∃ s, v = .string s ∧ Str s := by simp only [Plain] at h; obtain ⟨s, rfl, h⟩ := h; exact ⟨s, rfl, h⟩
section
variable {H : Type} {enc : TypeId × Value → H} {P : Program} {W : World} {t : TypeId} {ks : List Sh} {v : Value} {d : DataW H} {p : List MemPlace}
theorem arg_plains (hs : shape P 9 t = some ks) (h : DataW.Trod enc P W 0 (fun _ => true) true t v d p) (hw : (d.weights P t).all (· ≤ reachBytes) = true) : Plains W ks v.cells.toList := by
  obtain ⟨fuel, hf⟩ := h
  exact opens 9 t ks fuel _ _ hs hf hw
theorem arg_weights {ts : List TypeId} {ds : List (DataW H)} {j : Nat} (h : (DataW.weightsEach P ts ds).all (· ≤ reachBytes) = true) (ht : ts[j]? = some t) (hd : ds[j]? = some d) : (d.weights P t).all (· ≤ reachBytes) = true :=
  List.all_eq_true.2 fun n hn => List.all_eq_true.1 h n (DataW.weights_mem_each ht hd n hn)
theorem arg_string {r : Reach} {base : Nat} (ht : P.underlying t = some .string) (hval : Value.okWide P W r base t v) (h : DataW.Trod enc P W 0 (fun _ => true) true t v d p) (hp : Plains W [.str] v.cells.toList) : ∃ s, v = .string s ∧ Str s := by
  obtain ⟨s, rfl, _⟩ := Go.ChangeMaps.open_string ht hval h
  simp only [Plains, Value.cells] at hp
  obtain ⟨v', r', hv, hp, hr⟩ := hp
  simp only [List.cons.injEq] at hv
  obtain ⟨rfl, _⟩ := hv
  exact ⟨s, rfl, by obtain ⟨s', h1, h2⟩ := plain_str hp; simp only [Value.string.injEq] at h1; subst h1; exact h2⟩
end
end Go.Proofs.YtfhmcahfjoliiaaDoor
