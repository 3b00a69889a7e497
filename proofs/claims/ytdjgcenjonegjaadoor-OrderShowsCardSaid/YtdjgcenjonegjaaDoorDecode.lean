/- what an argument's cells say, type by type (made by wip/bin/gen_api.py) -/
import Derived.Test.YtdjgcenjonegjaaDoorOpen
namespace Go.Proofs.YtdjgcenjonegjaaDoor
set_option linter.unusedSimpArgs false
set_option linter.unusedVariables false
open Go.ChangeShapes Go.WideShapes Go.ChangeAt Go.RowKit
set_option maxRecDepth 20000

theorem wf_I64 {n : Int} (h : (Lit.int .i64 n).wf = true) : I64 n := by simp [Lit.wf, IntKind.min, IntKind.max, IntKind.signed, IntKind.bits] at h; exact h
theorem plain_i64 {w : World} {v : Value} (h : Plain w (.int .i64) v) : ∃ n, v = I n ∧ I64 n := by simp only [Plain] at h; obtain ⟨n, rfl, h⟩ := h; exact ⟨n, rfl, wf_I64 h⟩
theorem plain_str {w : World} {v : Value} (h : Plain w .str v) : ∃ s, v = .string s ∧ Str s := by simp only [Plain] at h; obtain ⟨s, rfl, h⟩ := h; exact ⟨s, rfl, h⟩
theorem decodeAct {w : World} (cs : List Value) (h : Plains w [.int .i64, .int .i64, .int .i64, .int .i64, .int .i64, .str, .int .i64] cs) : ∃ x : AAct, cs = x.cells ∧ x.wf := by
  simp only [Plains] at h
  obtain ⟨v0, r0, rfl, h0, v1, r1, rfl, h1, v2, r2, rfl, h2, v3, r3, rfl, h3, v4, r4, rfl, h4, v5, r5, rfl, h5, v6, r6, rfl, h6, rfl⟩ := h
  obtain ⟨n0, rfl, w0⟩ := plain_i64 h0
  obtain ⟨n1, rfl, w1⟩ := plain_i64 h1
  obtain ⟨n2, rfl, w2⟩ := plain_i64 h2
  obtain ⟨n3, rfl, w3⟩ := plain_i64 h3
  obtain ⟨n4, rfl, w4⟩ := plain_i64 h4
  obtain ⟨n5, rfl, w5⟩ := plain_str h5
  obtain ⟨n6, rfl, w6⟩ := plain_i64 h6
  exact ⟨⟨n0, n1, n2, n3, n4, n5, n6⟩, rfl, ⟨w0, w1, w2, w3, w4, w5, w6⟩⟩
section
variable {H : Type} {enc : TypeId × Value → H} {P : Program} {W : World} {t : TypeId} {ks : List Sh} {v : Value} {d : DataW H} {p : List MemPlace}
theorem arg_plains (hs : shape P 9 t = some ks) (h : DataW.Trod enc P W 0 (fun _ => true) true t v d p) (hw : (d.weights P t).all (· ≤ reachBytes) = true) : Plains W ks v.cells.toList := by
  obtain ⟨fuel, hf⟩ := h
  exact opens 9 t ks fuel _ _ hs hf hw
theorem arg_weights {ts : List TypeId} {ds : List (DataW H)} {j : Nat} (h : (DataW.weightsEach P ts ds).all (· ≤ reachBytes) = true) (ht : ts[j]? = some t) (hd : ds[j]? = some d) : (d.weights P t).all (· ≤ reachBytes) = true :=
  List.all_eq_true.2 fun n hn => List.all_eq_true.1 h n (DataW.weights_mem_each ht hd n hn)
theorem arg_struct {fs : Array Field} {r : Reach} {base : Nat} (ht : P.underlying t = some (.struct fs)) (hval : Value.okWide P W r base t v) (h : Plains W ks v.cells.toList) : ∃ cs : List Value, v = .agg cs.toArray ∧ Plains W ks cs := by
  unfold Value.okWide at hval
  rw [ht] at hval
  obtain ⟨cs, rfl, _⟩ := hval
  exact ⟨cs.toList, by simp, h⟩
end
end Go.Proofs.YtdjgcenjonegjaaDoor
