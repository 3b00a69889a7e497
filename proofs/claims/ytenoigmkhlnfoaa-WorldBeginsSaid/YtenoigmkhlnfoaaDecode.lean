/- what an argument's cells say, type by type (made by wip/bin/gen_api.py) -/
import Derived.Test.YtenoigmkhlnfoaaOpen
namespace Go.Proofs.Ytenoigmkhlnfoaa
set_option linter.unusedSimpArgs false
set_option linter.unusedVariables false
open Go.ChangeShapes Go.WideShapes Go.ChangeAt Go.RowKit
set_option maxRecDepth 20000

theorem wf_I64 {n : Int} (h : (Lit.int .i64 n).wf = true) : I64 n := by simp [Lit.wf, IntKind.min, IntKind.max, IntKind.signed, IntKind.bits] at h; exact h
theorem plain_i64 {w : World} {v : Value} (h : Plain w (.int .i64) v) : ∃ n, v = I n ∧ I64 n := by simp only [Plain] at h; obtain ⟨n, rfl, h⟩ := h; exact ⟨n, rfl, wf_I64 h⟩
/-- a slice whose elements decode -/
theorem plain_slice {α : Type} [Inhabited α] (f : α → List Value) (sz : Nat) (wf : α → Prop) (ks : List Sh) (hk : ks.length = sz) (hf : ∀ x, (f x).length = sz) {w : World} {by' : Nat} {v : Value}
    (hdec : ∀ cs, Plains w ks cs → ∃ x, cs = f x ∧ wf x) (h : Plain w (.slice by' ks) v) :
    ∃ xs : List α, Sl w v sz xs.length (xs.flatMap f) ∧ (∀ x ∈ xs, wf x) ∧ xs.length * by' ≤ 140737488351232 := by
  subst hk
  simp only [Plain] at h
  obtain ⟨n, cs, hS, hn, hel⟩ := h
  have key : ∀ (n : Nat) (cs : List Value), cs.length = n * ks.length → (∀ i, i < n → Plains w ks ((cs.drop (i * ks.length)).take ks.length)) → ∃ xs : List α, xs.length = n ∧ cs = xs.flatMap f ∧ ∀ x ∈ xs, wf x := by
    intro n
    induction n with
    | zero => intro cs hl _; exact ⟨[], rfl, by simpa using hl, by simp⟩
    | succ n ih =>
      intro cs hl h
      have h0 := h 0 (by omega)
      rw [Nat.zero_mul, List.drop_zero] at h0
      obtain ⟨x, hx, hw⟩ := hdec _ h0
      obtain ⟨xs, hxl, hxs, hxw⟩ := ih (cs.drop ks.length) (by rw [List.length_drop, hl, Nat.succ_mul]; omega) (fun i hi => by
        have := h (i + 1) (by omega)
        rw [List.drop_drop, show ks.length + i * ks.length = (i + 1) * ks.length by rw [Nat.succ_mul]; omega]
        exact this)
      refine ⟨x :: xs, by simp [hxl], ?_, ?_⟩
      · rw [List.flatMap_cons, ← hx, ← hxs, List.take_append_drop]
      · intro y hy
        rcases List.mem_cons.1 hy with rfl | hy
        · exact hw
        · exact hxw y hy
  have hl : cs.length = n * ks.length := by obtain ⟨_, _, _, _, h, _⟩ := hS; exact h
  obtain ⟨xs, rfl, rfl, hw⟩ := key n cs hl hel
  exact ⟨xs, hS, hw, hn⟩

theorem decodeStep {w : World} (cs : List Value) (h : Plains w [.int .i64, .int .i64] cs) : ∃ x : AStep, cs = x.cells ∧ x.wf := by
  simp only [Plains] at h
  obtain ⟨v0, r0, rfl, h0, v1, r1, rfl, h1, rfl⟩ := h
  obtain ⟨n0, rfl, w0⟩ := plain_i64 h0
  obtain ⟨n1, rfl, w1⟩ := plain_i64 h1
  exact ⟨⟨n0, n1⟩, rfl, ⟨w0, w1⟩⟩
theorem plainSteps {w : World} {by' : Nat} {v : Value} (h : Plain w (.slice by' [.int .i64, .int .i64]) v) : ∃ xs : List AStep, Sl w v 2 xs.length (xs.flatMap AStep.cells) ∧ (∀ x ∈ xs, x.wf) ∧ xs.length * by' ≤ 140737488351232 :=
  plain_slice AStep.cells 2 AStep.wf _ rfl AStep.cells_len decodeStep h

section
variable {H : Type} {enc : TypeId × Value → H} {P : Program} {W : World} {t : TypeId} {ks : List Sh} {v : Value} {d : DataW H} {p : List MemPlace}
theorem arg_plains (hs : shape P 9 t = some ks) (h : DataW.Trod enc P W 0 (fun _ => true) true t v d p) (hw : (d.weights P t).all (· ≤ reachBytes) = true) : Plains W ks v.cells.toList := by
  obtain ⟨fuel, hf⟩ := h
  exact opens 9 t ks fuel _ _ hs hf hw
theorem arg_weights {ts : List TypeId} {ds : List (DataW H)} {j : Nat} (h : (DataW.weightsEach P ts ds).all (· ≤ reachBytes) = true) (ht : ts[j]? = some t) (hd : ds[j]? = some d) : (d.weights P t).all (· ≤ reachBytes) = true :=
  List.all_eq_true.2 fun n hn => List.all_eq_true.1 h n (DataW.weights_mem_each ht hd n hn)
theorem arg_struct {fs : Array Field} {r : Reach} {base : Nat} (ht : P.underlying t = some (.struct fs)) (hval : Value.okWide P W r base t v) (h : Plains W ks v.cells.toList) : ∃ cs : List Value, v = .agg cs.toArray ∧ Plains W ks cs := by
  unfold Value.okWide at hval
  rw [ht] at hval
  obtain ⟨cs, rfl, _⟩ := hval
  exact ⟨cs.toList, by simp, h⟩
end
end Go.Proofs.Ytenoigmkhlnfoaa
