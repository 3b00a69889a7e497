/- what an argument's cells say, type by type (made by wip/bin/gen_api.py) · arguments that hold a list: accounts, terms, oracles · a region that draws its order and holds recover: every order that can be drawn · 'In' and its twins: is a number from low to high? · a block of the call's own, written in place -/
import Derived.Test.YtenoigmkhlnfoaaOpen
import Derived.Recover
import Derived.Orders
import Derived.Test.YtenoigmkhlnfoaaPk00
namespace Go.Proofs.Ytenoigmkhlnfoaa
set_option linter.unusedSimpArgs false
set_option linter.unusedVariables false
open Go.ChangeShapes Go.WideShapes Go.ChangeAt Go.RowKit
set_option maxRecDepth 20000

theorem wf_I64 {n : Int} (h : (Lit.int .i64 n).wf = true) : I64 n := by simp [Lit.wf, IntKind.min, IntKind.max, IntKind.signed, IntKind.bits] at h; exact h
theorem plain_i64 {w : World} {v : Value} (h : Plain w (.int .i64) v) : ∃ n, v = I n ∧ I64 n := by simp only [Plain] at h; obtain ⟨n, rfl, h⟩ := h; exact ⟨n, rfl, wf_I64 h⟩
/-- a slice whose elements decode -/
theorem plain_slice {α : Type} [Inhabited α] (f : α → List Value) (sz : Nat) (wf : α → Prop) (ks : List Sh) (hk : ks.length = sz) (hf : ∀ x, (f x).length = sz) {w : World} {by' : Nat} {v : Value}
    (hdec : ∀ cs, Plains w ks cs → ∃ x, cs = f x ∧ wf x) (h : Plain w (.slice by' ks) v) :
    ∃ xs : List α, Sl w v sz xs.length (xs.flatMap f) ∧ (∀ x ∈ xs, wf x) ∧ xs.length * by' ≤ 140737488351232 := by
  subst hk
  simp only [Plain] at h
  obtain ⟨n, cs, hS, hn, hel⟩ := h
  have key : ∀ (n : Nat) (cs : List Value), cs.length = n * ks.length → (∀ i, i < n → Plains w ks ((cs.drop (i * ks.length)).take ks.length)) → ∃ xs : List α, xs.length = n ∧ cs = xs.flatMap f ∧ ∀ x ∈ xs, wf x := by
    intro n
    induction n with
    | zero => intro cs hl _; exact ⟨[], rfl, by simpa using hl, by simp⟩
    | succ n ih =>
      intro cs hl h
      have h0 := h 0 (by omega)
      rw [Nat.zero_mul, List.drop_zero] at h0
      obtain ⟨x, hx, hw⟩ := hdec _ h0
      obtain ⟨xs, hxl, hxs, hxw⟩ := ih (cs.drop ks.length) (by rw [List.length_drop, hl, Nat.succ_mul]; omega) (fun i hi => by
        have := h (i + 1) (by omega)
        rw [List.drop_drop, show ks.length + i * ks.length = (i + 1) * ks.length by rw [Nat.succ_mul]; omega]
        exact this)
      refine ⟨x :: xs, by simp [hxl], ?_, ?_⟩
      · rw [List.flatMap_cons, ← hx, ← hxs, List.take_append_drop]
      · intro y hy
        rcases List.mem_cons.1 hy with rfl | hy
        · exact hw
        · exact hxw y hy
  have hl : cs.length = n * ks.length := by obtain ⟨_, _, _, _, h, _⟩ := hS; exact h
  obtain ⟨xs, rfl, rfl, hw⟩ := key n cs hl hel
  exact ⟨xs, hS, hw, hn⟩

theorem decodeStep {w : World} (cs : List Value) (h : Plains w [.int .i64, .int .i64] cs) : ∃ x : AStep, cs = x.cells ∧ x.wf := by
  simp only [Plains] at h
  obtain ⟨v0, r0, rfl, h0, v1, r1, rfl, h1, rfl⟩ := h
  obtain ⟨n0, rfl, w0⟩ := plain_i64 h0
  obtain ⟨n1, rfl, w1⟩ := plain_i64 h1
  exact ⟨⟨n0, n1⟩, rfl, ⟨w0, w1⟩⟩
theorem plainSteps {w : World} {by' : Nat} {v : Value} (h : Plain w (.slice by' [.int .i64, .int .i64]) v) : ∃ xs : List AStep, Sl w v 2 xs.length (xs.flatMap AStep.cells) ∧ (∀ x ∈ xs, x.wf) ∧ xs.length * by' ≤ 140737488351232 :=
  plain_slice AStep.cells 2 AStep.wf _ rfl AStep.cells_len decodeStep h

theorem decodeEvent {w : World} (cs : List Value) (h : Plains w [.int .i64, .int .i64, .int .i64, .int .i64, .int .i64, .int .i64, .int .i64, .int .i64, .int .i64, .int .i64, .int .i64, .int .i64, .int .i64] cs) : ∃ x : AEvent, cs = x.cells ∧ x.wf := by
  simp only [Plains] at h
  obtain ⟨v0, r0, rfl, h0, v1, r1, rfl, h1, v2, r2, rfl, h2, v3, r3, rfl, h3, v4, r4, rfl, h4, v5, r5, rfl, h5, v6, r6, rfl, h6, v7, r7, rfl, h7, v8, r8, rfl, h8, v9, r9, rfl, h9, v10, r10, rfl, h10, v11, r11, rfl, h11, v12, r12, rfl, h12, rfl⟩ := h
  obtain ⟨n0, rfl, w0⟩ := plain_i64 h0
  obtain ⟨n1, rfl, w1⟩ := plain_i64 h1
  obtain ⟨n2, rfl, w2⟩ := plain_i64 h2
  obtain ⟨n3, rfl, w3⟩ := plain_i64 h3
  obtain ⟨n4, rfl, w4⟩ := plain_i64 h4
  obtain ⟨n5, rfl, w5⟩ := plain_i64 h5
  obtain ⟨n6, rfl, w6⟩ := plain_i64 h6
  obtain ⟨n7, rfl, w7⟩ := plain_i64 h7
  obtain ⟨n8, rfl, w8⟩ := plain_i64 h8
  obtain ⟨n9, rfl, w9⟩ := plain_i64 h9
  obtain ⟨n10, rfl, w10⟩ := plain_i64 h10
  obtain ⟨n11, rfl, w11⟩ := plain_i64 h11
  obtain ⟨n12, rfl, w12⟩ := plain_i64 h12
  exact ⟨⟨n0, n1, n2, ⟨n3, n4, n5, n6, n7, n8, n9⟩, n10, ⟨n11, n12⟩⟩, rfl, ⟨w0, w1, w2, w3, w4, w5, w6, w7, w8, w9, w10, w11, w12⟩⟩
theorem plainEvents {w : World} {by' : Nat} {v : Value} (h : Plain w (.slice by' [.int .i64, .int .i64, .int .i64, .int .i64, .int .i64, .int .i64, .int .i64, .int .i64, .int .i64, .int .i64, .int .i64, .int .i64, .int .i64]) v) : ∃ xs : List AEvent, Sl w v 13 xs.length (xs.flatMap AEvent.cells) ∧ (∀ x ∈ xs, x.wf) ∧ xs.length * by' ≤ 140737488351232 :=
  plain_slice AEvent.cells 13 AEvent.wf _ rfl AEvent.cells_len decodeEvent h

section
variable {H : Type} {enc : TypeId × Value → H} {P : Program} {W : World} {t : TypeId} {ks : List Sh} {v : Value} {d : DataW H} {p : List MemPlace}
theorem arg_plains (hs : shape P 9 t = some ks) (h : DataW.Trod enc P W 0 (fun _ => true) true t v d p) (hw : (d.weights P t).all (· ≤ reachBytes) = true) : Plains W ks v.cells.toList := by
  obtain ⟨fuel, hf⟩ := h
  exact opens 9 t ks fuel _ _ hs hf hw
theorem arg_weights {ts : List TypeId} {ds : List (DataW H)} {j : Nat} (h : (DataW.weightsEach P ts ds).all (· ≤ reachBytes) = true) (ht : ts[j]? = some t) (hd : ds[j]? = some d) : (d.weights P t).all (· ≤ reachBytes) = true :=
  List.all_eq_true.2 fun n hn => List.all_eq_true.1 h n (DataW.weights_mem_each ht hd n hn)
theorem arg_slice {e : TypeId} {r : Reach} {base b : Nat} (ht : P.underlying t = some (.slice e)) (hval : Value.okWide P W r base t v) (h : Plains W [.slice b ks] v.cells.toList) : Plain W (.slice b ks) v := by
  obtain ⟨a, len, cap, rfl⟩ := okWide_slice ht hval
  simp only [Plains, Value.cells] at h
  obtain ⟨v', r', hv, hp, hr⟩ := h
  simp only [List.cons.injEq] at hv
  obtain ⟨rfl, _⟩ := hv
  exact hp
theorem arg_struct {fs : Array Field} {r : Reach} {base : Nat} (ht : P.underlying t = some (.struct fs)) (hval : Value.okWide P W r base t v) (h : Plains W ks v.cells.toList) : ∃ cs : List Value, v = .agg cs.toArray ∧ Plains W ks cs := by
  unfold Value.okWide at hval
  rw [ht] at hval
  obtain ⟨cs, rfl, _⟩ := hval
  exact ⟨cs.toList, by simp, h⟩
end
end Go.Proofs.Ytenoigmkhlnfoaa
namespace Go.Proofs.Ytenoigmkhlnfoaa
set_option linter.unusedSimpArgs false
set_option linter.unusedVariables false
open Go.RowKit Go.ChangeShapes Go.WideShapes Go.ChangeAt
set_option maxRecDepth 20000

/-- an account but for its debts -/
structure AAcc where
  meter : Int
  rev : Int
  next : Int
  month : Int
  bought : Int
  free : Int
deriving DecidableEq, Inhabited
def AAcc.wf (x : AAcc) : Prop := I64 x.meter ∧ I64 x.rev ∧ I64 x.next ∧ I64 x.month ∧ I64 x.bought ∧ I64 x.free
/-- terms but for the tariff -/
structure ATerms where
  feeFix : Int
  feeBp : Int
  debtBp : Int
  allow : Int
deriving DecidableEq, Inhabited
def ATerms.wf (x : ATerms) : Prop := I64 x.feeFix ∧ I64 x.feeBp ∧ I64 x.debtBp ∧ I64 x.allow

theorem decodeTerms {w : World} {by' : Nat} (cs : List Value) (h : Plains w [.slice by' [.int .i64, .int .i64], .int .i64, .int .i64, .int .i64, .int .i64] cs) :
    ∃ (x : ATerms) (v : Value) (xs : List AStep), cs = [v, I x.feeFix, I x.feeBp, I x.debtBp, I x.allow] ∧ x.wf ∧ Sl w v 2 xs.length (xs.flatMap AStep.cells) ∧ (∀ x ∈ xs, x.wf) ∧ xs.length * by' ≤ 140737488351232 := by
  simp only [Plains] at h
  obtain ⟨v0, r0, rfl, h0, v1, r1, rfl, h1, v2, r2, rfl, h2, v3, r3, rfl, h3, v4, r4, rfl, h4, rfl⟩ := h
  obtain ⟨xs, hS, hw, hb⟩ := plainSteps h0
  obtain ⟨n1, rfl, w1⟩ := plain_i64 h1
  obtain ⟨n2, rfl, w2⟩ := plain_i64 h2
  obtain ⟨n3, rfl, w3⟩ := plain_i64 h3
  obtain ⟨n4, rfl, w4⟩ := plain_i64 h4
  exact ⟨⟨n1, n2, n3, n4⟩, v0, xs, rfl, ⟨w1, w2, w3, w4⟩, hS, hw, hb⟩

end Go.Proofs.Ytenoigmkhlnfoaa
namespace Go.Proofs.Ytenoigmkhlnfoaa
set_option linter.unusedSimpArgs false
set_option linter.unusedVariables false
open Go
set_option maxRecDepth 20000

/-- all orders that can be drawn from here on -/
def allOrders (md : Region.Mode) (ops : Array Oper) : Nat → Array Bool → List (List Nat)
  | 0, _ => [[]]
  | fuel + 1, listed => if Region.ready md ops listed = [] then [[]] else (Region.ready md ops listed).flatMap fun i => (allOrders md ops fuel (listed.setIfInBounds i true)).map (i :: ·)

theorem order_mem (md : Region.Mode) (ops : Array Oper) : ∀ (fuel t : Nat) (listed : Array Bool), Region.linearise.go md ops fuel t listed [] ∈ allOrders md ops fuel listed := by
  intro fuel
  induction fuel with
  | zero => intro t listed; simp [Region.linearise.go, allOrders]
  | succ fuel ih =>
    intro t listed
    simp only [Region.linearise.go, allOrders]
    change (match (Region.ready md ops listed)[t % (Region.ready md ops listed).length]? with
      | some i => Region.linearise.go md ops fuel (t / (Region.ready md ops listed).length) (listed.setIfInBounds i true) [i]
      | none => [].reverse) ∈ _
    cases hi : (Region.ready md ops listed)[t % (Region.ready md ops listed).length]? with
    | none =>
      have hnil : Region.ready md ops listed = [] := by
        cases hr : Region.ready md ops listed with
        | nil => rfl
        | cons x xs =>
          rw [hr] at hi
          have hlt : t % (x :: xs).length < (x :: xs).length := Nat.mod_lt _ (by simp)
          simp at hi
          simp at hlt
          omega
      simp [hnil]
    | some i =>
      have hne : Region.ready md ops listed ≠ [] := fun h => by rw [h] at hi; simp at hi
      simp only [if_neg hne]
      rw [linearise_go_acc, List.reverse_singleton, List.singleton_append]
      exact List.mem_flatMap.2 ⟨i, List.mem_of_getElem? hi, List.mem_map.2 ⟨_, ih _ _, rfl⟩⟩

section
variable {P : Program} {ops : Array Oper} {Q : Exit → Act → List Frame → World → Prop} {a : Act} {cs : List Frame} {w : World}
theorem wpS_draw {id : Nat} (L : List (List Nat)) (hm : P.follows .mixedOrders = true) (hL : allOrders .any ops ops.size (Array.replicate ops.size false) = L)
    (h : ∀ l ∈ L, wpOpsS P ops Q l a cs { w with drawn := w.drawn + 1 }) : (Code.region id ops true).wpS P Q a cs w := by
  intro b k hb hr
  have hl : Region.schedule (P.follows .mixedOrders) ops (w.tape w.drawn (.order b.fn id)) ∈ L := by
    rw [← hL]
    simp only [Region.schedule, hm, Bool.true_or, if_true]
    exact order_mem _ _ _ _ _
  obtain ⟨e, a', cs', w', q, r⟩ := wp_opsS _ a cs _ (h _ hl) b k hb hr
  exact ⟨e, a', cs', w', q, .of_steps (.one step_region_draw) r⟩
end
end Go.Proofs.Ytenoigmkhlnfoaa
namespace Go.Proofs.Ytenoigmkhlnfoaa
set_option linter.unusedSimpArgs false
set_option linter.unusedVariables false
open Go.RowKit
set_option maxRecDepth 20000
def inB (n lo hi : Int) : Bool := decide (lo ≤ n) && decide (n ≤ hi)
theorem inB_true {n lo hi : Int} : inB n lo hi = true ↔ lo ≤ n ∧ n ≤ hi := by simp [inB]
theorem inB_false {n lo hi : Int} : inB n lo hi = false ↔ ¬ (lo ≤ n ∧ n ≤ hi) := by rw [← inB_true]; simp

theorem In_any (n low high : Int) (w : World) :
    Calls Try.prog 43 #[.int .i64 n, .int .i64 low, .int .i64 high] w (Pure (.bool (inB n low high)) w) := by
  go_enter Try.func43, Try.ntmps43
  go_wp2
  all_goals
    go_ret
    refine Pure.intro ?_
    simp only [inB]
    simp [*]
    try omega
end Go.Proofs.Ytenoigmkhlnfoaa
namespace Go.Proofs.Ytenoigmkhlnfoaa
set_option linter.unusedSimpArgs false
set_option linter.unusedVariables false
open Go.RowKit
set_option maxRecDepth 20000

/-- block g begins with the cells cs, and none of it is frozen -/
def Own (w : World) (g : Nat) (cs : List Value) : Prop :=
  ∃ cur e, w.heap[g]? = some (.cells cur e (0, 0)) ∧ ∀ j, j < cs.length → cur[j]? = some (cs.getD j undef)

theorem Own.lt {w : World} {g : Nat} {cs : List Value} (h : Own w g cs) : g < w.heap.size := by
  obtain ⟨cur, e, h, _⟩ := h; exact (Array.getElem?_eq_some_iff.1 h).1
theorem Own.cell {w : World} {g : Nat} {cs : List Value} (h : Own w g cs) : ∀ j, j < cs.length → w.cell? ⟨g, 0 + j, none⟩ = some (cs.getD j undef) := by
  obtain ⟨cur, e, h, hc⟩ := h
  intro j hj
  rw [Nat.zero_add, cell_of_cells h]; exact hc j hj
theorem Own.frozen {w : World} {g : Nat} {cs : List Value} (h : Own w g cs) (j : Nat) : w.frozen? ⟨g, j, none⟩ = false := by
  obtain ⟨cur, e, h, _⟩ := h
  simp [World.frozen?, h]
theorem Own.set {w : World} {g : Nat} {cs : List Value} (h : Own w g cs) (j : Nat) (x : Value) : Own (w.setCell ⟨g, j, none⟩ x) g (cs.set j x) := by
  obtain ⟨cur, e, h, hc⟩ := h
  refine ⟨cur.setIfInBounds j x, e, ?_, ?_⟩
  · have hg := (Array.getElem?_eq_some_iff.1 h).1
    simp [World.setCell, Array.getElem?_modify, h]
  · intro i hi
    rw [List.length_set] at hi
    have := hc i hi
    have hi' := (Array.getElem?_eq_some_iff.1 this).1
    rw [List.getD_eq_getElem?_getD, List.getElem?_set, Array.getElem?_setIfInBounds]
    by_cases hij : j = i
    · subst hij; simp [hi, hi']
    · simp only [hij, if_false]; rw [this, List.getD_eq_getElem?_getD]
theorem Own.other {w : World} {g : Nat} {cs : List Value} (h : Own w g cs) {a : Addr} (ha : a.block ≠ g) (x : Value) : Own (w.setCell a x) g cs := by
  obtain ⟨cur, e, h, hc⟩ := h
  refine ⟨cur, e, ?_, hc⟩
  simp [World.setCell, Array.getElem?_modify, ha, h]
theorem Own.below {w w' : World} {g : Nat} {cs : List Value} (h : Own w g cs) (hb : Below w.heap.size w w') : Own w' g cs := by
  have hg := h.lt
  obtain ⟨cur, e, h, hc⟩ := h
  exact ⟨cur, e, (hb.block g hg).trans h, hc⟩
theorem Own.drewN {w : World} {g : Nat} {cs : List Value} (h : Own w g cs) (q : Nat) : Own (w.drewN q) g cs := h
theorem Own.of_owns {w : World} {base e sz n m cap g : Nat} {cs : List Value} (h : w.ownsRow base e sz (.slice (some ⟨g, 0, none⟩) n cap) m cs) : Own w g cs := by
  obtain ⟨hl, h⟩ := h
  rcases h with ⟨h, _⟩ | ⟨g', cap', cur, hv, hb, hg, hc, hm, hs, ht⟩
  · cases h
  · cases hv
    refine ⟨cur, e, hg, fun j hj => ?_⟩
    rw [← ht, List.getD_eq_getElem?_getD, List.getElem?_take, if_pos (by omega), Array.getElem?_toList]
    rw [Array.getElem?_eq_getElem (by rw [hs]; have := Nat.mul_le_mul_right sz hc; omega)]
    rfl
theorem Own.sl {w : World} {g n cap sz : Nat} {cs : List Value} (h : Own w g cs) (hn : n ≤ 281474976710656) (hc : n ≤ cap) (hl : cs.length = n * sz) : Sl w (.slice (some ⟨g, 0, none⟩) n cap) sz n cs :=
  ⟨_, cap, rfl, ⟨hn, hc⟩, hl, (fun h => by cases h), .inr ⟨g, 0, rfl, h.lt, h.cell⟩⟩
theorem Own.new {w : World} {g : Nat} (hg : g = w.heap.size) (cs : List Value) (e : TypeId) : Own (w.alloc (.cells cs.toArray e)) g cs := by
  subst hg
  refine ⟨cs.toArray, e, heap_alloc_new w _, fun j hj => ?_⟩
  rw [List.getD_eq_getElem?_getD, List.getElem?_eq_getElem hj]; simp [hj]
theorem Own.alloc {w : World} {g : Nat} {cs : List Value} (h : Own w g cs) (o : Obj) : Own (w.alloc o) g cs := h.below (boxed_below w o)
/-- what append or make gave: nothing at all, or a block of the call's own -/
theorem owns_cases {w : World} {base e sz n : Nat} {v : Value} {cs : List Value} (h : w.ownsRow base e sz v n cs) : (v = .slice none 0 0 ∧ n = 0) ∨ ∃ g cap, v = .slice (some ⟨g, 0, none⟩) n cap ∧ base ≤ g ∧ n ≤ cap ∧ Own w g cs := by
  have h' := h
  obtain ⟨hl, h⟩ := h
  rcases h with h | ⟨g, cap, cur, hv, hb, hg, hc, hm, hs, ht⟩
  · exact .inl h
  · subst hv
    exact .inr ⟨g, cap, rfl, hb, hc, Own.of_owns h'⟩

/-! rules for the walk: a cell behind a store (have r1 := set_same; have r2 := set_off; have r3 := set_blk) -/
theorem set_same (w : World) (g j : Nat) (x : Value) : (w.setCell ⟨g, j, none⟩ x).cell? ⟨g, j, none⟩ = (w.cell? ⟨g, j, none⟩).map fun _ => x := by
  cases h : w.cell? ⟨g, j, none⟩ with
  | some u => exact World.cell?_setCell_same _ _ _ h
  | none =>
    unfold World.cell? at h
    simp only [World.setCell, World.cell?, Array.getElem?_modify, if_true]
    cases hh : w.heap[g]? with
    | none => rfl
    | some o =>
      rw [hh] at h
      cases o <;> simp_all
theorem set_off (w : World) (g i j : Nat) (x : Value) (h : i ≠ j) : (w.setCell ⟨g, i, none⟩ x).cell? ⟨g, j, none⟩ = w.cell? ⟨g, j, none⟩ :=
  World.cell?_setCell_other _ _ _ _ (fun e => h (by injection e))
theorem set_blk (w : World) (g g' i j : Nat) (x : Value) (h : g ≠ g') : (w.setCell ⟨g, i, none⟩ x).cell? ⟨g', j, none⟩ = w.cell? ⟨g', j, none⟩ :=
  World.cell?_setCell_other _ _ _ _ (fun e => h (by injection e))
theorem Own.a1 {w : World} {g : Nat} {cs : List Value} (h : Own w g cs) (hl : 1 ≤ cs.length := by simp) : (w.cell? ⟨g, 0, none⟩ = some (cs.getD 0 undef) ∧ w.frozen? ⟨g, 0, none⟩ = false) ∧ True := ⟨⟨by have := h.cell 0 (by omega); rwa [Nat.zero_add] at this, h.frozen 0⟩, trivial⟩
theorem Own.a2 {w : World} {g : Nat} {cs : List Value} (h : Own w g cs) (hl : 2 ≤ cs.length := by simp) : (w.cell? ⟨g, 0, none⟩ = some (cs.getD 0 undef) ∧ w.frozen? ⟨g, 0, none⟩ = false) ∧ (w.cell? ⟨g, 1, none⟩ = some (cs.getD 1 undef) ∧ w.frozen? ⟨g, 1, none⟩ = false) ∧ True := ⟨⟨by have := h.cell 0 (by omega); rwa [Nat.zero_add] at this, h.frozen 0⟩, ⟨by have := h.cell 1 (by omega); rwa [Nat.zero_add] at this, h.frozen 1⟩, trivial⟩
theorem Own.a5 {w : World} {g : Nat} {cs : List Value} (h : Own w g cs) (hl : 5 ≤ cs.length := by simp) : (w.cell? ⟨g, 0, none⟩ = some (cs.getD 0 undef) ∧ w.frozen? ⟨g, 0, none⟩ = false) ∧ (w.cell? ⟨g, 1, none⟩ = some (cs.getD 1 undef) ∧ w.frozen? ⟨g, 1, none⟩ = false) ∧ (w.cell? ⟨g, 2, none⟩ = some (cs.getD 2 undef) ∧ w.frozen? ⟨g, 2, none⟩ = false) ∧ (w.cell? ⟨g, 3, none⟩ = some (cs.getD 3 undef) ∧ w.frozen? ⟨g, 3, none⟩ = false) ∧ (w.cell? ⟨g, 4, none⟩ = some (cs.getD 4 undef) ∧ w.frozen? ⟨g, 4, none⟩ = false) ∧ True := ⟨⟨by have := h.cell 0 (by omega); rwa [Nat.zero_add] at this, h.frozen 0⟩, ⟨by have := h.cell 1 (by omega); rwa [Nat.zero_add] at this, h.frozen 1⟩, ⟨by have := h.cell 2 (by omega); rwa [Nat.zero_add] at this, h.frozen 2⟩, ⟨by have := h.cell 3 (by omega); rwa [Nat.zero_add] at this, h.frozen 3⟩, ⟨by have := h.cell 4 (by omega); rwa [Nat.zero_add] at this, h.frozen 4⟩, trivial⟩
theorem Own.a7 {w : World} {g : Nat} {cs : List Value} (h : Own w g cs) (hl : 7 ≤ cs.length := by simp) : (w.cell? ⟨g, 0, none⟩ = some (cs.getD 0 undef) ∧ w.frozen? ⟨g, 0, none⟩ = false) ∧ (w.cell? ⟨g, 1, none⟩ = some (cs.getD 1 undef) ∧ w.frozen? ⟨g, 1, none⟩ = false) ∧ (w.cell? ⟨g, 2, none⟩ = some (cs.getD 2 undef) ∧ w.frozen? ⟨g, 2, none⟩ = false) ∧ (w.cell? ⟨g, 3, none⟩ = some (cs.getD 3 undef) ∧ w.frozen? ⟨g, 3, none⟩ = false) ∧ (w.cell? ⟨g, 4, none⟩ = some (cs.getD 4 undef) ∧ w.frozen? ⟨g, 4, none⟩ = false) ∧ (w.cell? ⟨g, 5, none⟩ = some (cs.getD 5 undef) ∧ w.frozen? ⟨g, 5, none⟩ = false) ∧ (w.cell? ⟨g, 6, none⟩ = some (cs.getD 6 undef) ∧ w.frozen? ⟨g, 6, none⟩ = false) ∧ True := ⟨⟨by have := h.cell 0 (by omega); rwa [Nat.zero_add] at this, h.frozen 0⟩, ⟨by have := h.cell 1 (by omega); rwa [Nat.zero_add] at this, h.frozen 1⟩, ⟨by have := h.cell 2 (by omega); rwa [Nat.zero_add] at this, h.frozen 2⟩, ⟨by have := h.cell 3 (by omega); rwa [Nat.zero_add] at this, h.frozen 3⟩, ⟨by have := h.cell 4 (by omega); rwa [Nat.zero_add] at this, h.frozen 4⟩, ⟨by have := h.cell 5 (by omega); rwa [Nat.zero_add] at this, h.frozen 5⟩, ⟨by have := h.cell 6 (by omega); rwa [Nat.zero_add] at this, h.frozen 6⟩, trivial⟩
theorem Own.a8 {w : World} {g : Nat} {cs : List Value} (h : Own w g cs) (hl : 8 ≤ cs.length := by simp) : (w.cell? ⟨g, 0, none⟩ = some (cs.getD 0 undef) ∧ w.frozen? ⟨g, 0, none⟩ = false) ∧ (w.cell? ⟨g, 1, none⟩ = some (cs.getD 1 undef) ∧ w.frozen? ⟨g, 1, none⟩ = false) ∧ (w.cell? ⟨g, 2, none⟩ = some (cs.getD 2 undef) ∧ w.frozen? ⟨g, 2, none⟩ = false) ∧ (w.cell? ⟨g, 3, none⟩ = some (cs.getD 3 undef) ∧ w.frozen? ⟨g, 3, none⟩ = false) ∧ (w.cell? ⟨g, 4, none⟩ = some (cs.getD 4 undef) ∧ w.frozen? ⟨g, 4, none⟩ = false) ∧ (w.cell? ⟨g, 5, none⟩ = some (cs.getD 5 undef) ∧ w.frozen? ⟨g, 5, none⟩ = false) ∧ (w.cell? ⟨g, 6, none⟩ = some (cs.getD 6 undef) ∧ w.frozen? ⟨g, 6, none⟩ = false) ∧ (w.cell? ⟨g, 7, none⟩ = some (cs.getD 7 undef) ∧ w.frozen? ⟨g, 7, none⟩ = false) ∧ True := ⟨⟨by have := h.cell 0 (by omega); rwa [Nat.zero_add] at this, h.frozen 0⟩, ⟨by have := h.cell 1 (by omega); rwa [Nat.zero_add] at this, h.frozen 1⟩, ⟨by have := h.cell 2 (by omega); rwa [Nat.zero_add] at this, h.frozen 2⟩, ⟨by have := h.cell 3 (by omega); rwa [Nat.zero_add] at this, h.frozen 3⟩, ⟨by have := h.cell 4 (by omega); rwa [Nat.zero_add] at this, h.frozen 4⟩, ⟨by have := h.cell 5 (by omega); rwa [Nat.zero_add] at this, h.frozen 5⟩, ⟨by have := h.cell 6 (by omega); rwa [Nat.zero_add] at this, h.frozen 6⟩, ⟨by have := h.cell 7 (by omega); rwa [Nat.zero_add] at this, h.frozen 7⟩, trivial⟩
theorem Own.a12 {w : World} {g : Nat} {cs : List Value} (h : Own w g cs) (hl : 12 ≤ cs.length := by simp) : (w.cell? ⟨g, 0, none⟩ = some (cs.getD 0 undef) ∧ w.frozen? ⟨g, 0, none⟩ = false) ∧ (w.cell? ⟨g, 1, none⟩ = some (cs.getD 1 undef) ∧ w.frozen? ⟨g, 1, none⟩ = false) ∧ (w.cell? ⟨g, 2, none⟩ = some (cs.getD 2 undef) ∧ w.frozen? ⟨g, 2, none⟩ = false) ∧ (w.cell? ⟨g, 3, none⟩ = some (cs.getD 3 undef) ∧ w.frozen? ⟨g, 3, none⟩ = false) ∧ (w.cell? ⟨g, 4, none⟩ = some (cs.getD 4 undef) ∧ w.frozen? ⟨g, 4, none⟩ = false) ∧ (w.cell? ⟨g, 5, none⟩ = some (cs.getD 5 undef) ∧ w.frozen? ⟨g, 5, none⟩ = false) ∧ (w.cell? ⟨g, 6, none⟩ = some (cs.getD 6 undef) ∧ w.frozen? ⟨g, 6, none⟩ = false) ∧ (w.cell? ⟨g, 7, none⟩ = some (cs.getD 7 undef) ∧ w.frozen? ⟨g, 7, none⟩ = false) ∧ (w.cell? ⟨g, 8, none⟩ = some (cs.getD 8 undef) ∧ w.frozen? ⟨g, 8, none⟩ = false) ∧ (w.cell? ⟨g, 9, none⟩ = some (cs.getD 9 undef) ∧ w.frozen? ⟨g, 9, none⟩ = false) ∧ (w.cell? ⟨g, 10, none⟩ = some (cs.getD 10 undef) ∧ w.frozen? ⟨g, 10, none⟩ = false) ∧ (w.cell? ⟨g, 11, none⟩ = some (cs.getD 11 undef) ∧ w.frozen? ⟨g, 11, none⟩ = false) ∧ True := ⟨⟨by have := h.cell 0 (by omega); rwa [Nat.zero_add] at this, h.frozen 0⟩, ⟨by have := h.cell 1 (by omega); rwa [Nat.zero_add] at this, h.frozen 1⟩, ⟨by have := h.cell 2 (by omega); rwa [Nat.zero_add] at this, h.frozen 2⟩, ⟨by have := h.cell 3 (by omega); rwa [Nat.zero_add] at this, h.frozen 3⟩, ⟨by have := h.cell 4 (by omega); rwa [Nat.zero_add] at this, h.frozen 4⟩, ⟨by have := h.cell 5 (by omega); rwa [Nat.zero_add] at this, h.frozen 5⟩, ⟨by have := h.cell 6 (by omega); rwa [Nat.zero_add] at this, h.frozen 6⟩, ⟨by have := h.cell 7 (by omega); rwa [Nat.zero_add] at this, h.frozen 7⟩, ⟨by have := h.cell 8 (by omega); rwa [Nat.zero_add] at this, h.frozen 8⟩, ⟨by have := h.cell 9 (by omega); rwa [Nat.zero_add] at this, h.frozen 9⟩, ⟨by have := h.cell 10 (by omega); rwa [Nat.zero_add] at this, h.frozen 10⟩, ⟨by have := h.cell 11 (by omega); rwa [Nat.zero_add] at this, h.frozen 11⟩, trivial⟩
theorem Own.a13 {w : World} {g : Nat} {cs : List Value} (h : Own w g cs) (hl : 13 ≤ cs.length := by simp) : (w.cell? ⟨g, 0, none⟩ = some (cs.getD 0 undef) ∧ w.frozen? ⟨g, 0, none⟩ = false) ∧ (w.cell? ⟨g, 1, none⟩ = some (cs.getD 1 undef) ∧ w.frozen? ⟨g, 1, none⟩ = false) ∧ (w.cell? ⟨g, 2, none⟩ = some (cs.getD 2 undef) ∧ w.frozen? ⟨g, 2, none⟩ = false) ∧ (w.cell? ⟨g, 3, none⟩ = some (cs.getD 3 undef) ∧ w.frozen? ⟨g, 3, none⟩ = false) ∧ (w.cell? ⟨g, 4, none⟩ = some (cs.getD 4 undef) ∧ w.frozen? ⟨g, 4, none⟩ = false) ∧ (w.cell? ⟨g, 5, none⟩ = some (cs.getD 5 undef) ∧ w.frozen? ⟨g, 5, none⟩ = false) ∧ (w.cell? ⟨g, 6, none⟩ = some (cs.getD 6 undef) ∧ w.frozen? ⟨g, 6, none⟩ = false) ∧ (w.cell? ⟨g, 7, none⟩ = some (cs.getD 7 undef) ∧ w.frozen? ⟨g, 7, none⟩ = false) ∧ (w.cell? ⟨g, 8, none⟩ = some (cs.getD 8 undef) ∧ w.frozen? ⟨g, 8, none⟩ = false) ∧ (w.cell? ⟨g, 9, none⟩ = some (cs.getD 9 undef) ∧ w.frozen? ⟨g, 9, none⟩ = false) ∧ (w.cell? ⟨g, 10, none⟩ = some (cs.getD 10 undef) ∧ w.frozen? ⟨g, 10, none⟩ = false) ∧ (w.cell? ⟨g, 11, none⟩ = some (cs.getD 11 undef) ∧ w.frozen? ⟨g, 11, none⟩ = false) ∧ (w.cell? ⟨g, 12, none⟩ = some (cs.getD 12 undef) ∧ w.frozen? ⟨g, 12, none⟩ = false) ∧ True := ⟨⟨by have := h.cell 0 (by omega); rwa [Nat.zero_add] at this, h.frozen 0⟩, ⟨by have := h.cell 1 (by omega); rwa [Nat.zero_add] at this, h.frozen 1⟩, ⟨by have := h.cell 2 (by omega); rwa [Nat.zero_add] at this, h.frozen 2⟩, ⟨by have := h.cell 3 (by omega); rwa [Nat.zero_add] at this, h.frozen 3⟩, ⟨by have := h.cell 4 (by omega); rwa [Nat.zero_add] at this, h.frozen 4⟩, ⟨by have := h.cell 5 (by omega); rwa [Nat.zero_add] at this, h.frozen 5⟩, ⟨by have := h.cell 6 (by omega); rwa [Nat.zero_add] at this, h.frozen 6⟩, ⟨by have := h.cell 7 (by omega); rwa [Nat.zero_add] at this, h.frozen 7⟩, ⟨by have := h.cell 8 (by omega); rwa [Nat.zero_add] at this, h.frozen 8⟩, ⟨by have := h.cell 9 (by omega); rwa [Nat.zero_add] at this, h.frozen 9⟩, ⟨by have := h.cell 10 (by omega); rwa [Nat.zero_add] at this, h.frozen 10⟩, ⟨by have := h.cell 11 (by omega); rwa [Nat.zero_add] at this, h.frozen 11⟩, ⟨by have := h.cell 12 (by omega); rwa [Nat.zero_add] at this, h.frozen 12⟩, trivial⟩
end Go.Proofs.Ytenoigmkhlnfoaa
