/- a block of the call's own, written in place · the map of the oracle: what was tagged, by meter, revision and body -/
import Derived.Test.YtmciccnmpoijdaaGreatDoorPk00
import Derived.Test.YtmciccnmpoijdaaGreatDoorApi
import Derived.Maps.Own
import Derived.Maps.OwnOps
namespace Go.Proofs.YtmciccnmpoijdaaGreatDoor
open Go.RowKit
set_option maxRecDepth 20000

/-- block g begins with the cells cs, and none of it is frozen -/
def Own (w : World) (g : Nat) (cs : List Value) : Prop :=
  ∃ cur e, w.heap[g]? = some (.cells cur e (0, 0)) ∧ ∀ j, j < cs.length → cur[j]? = some (cs.getD j undef)

theorem Own.lt {w : World} {g : Nat} {cs : List Value} (h : Own w g cs) : g < w.heap.size := by
  obtain ⟨cur, e, h, _⟩ := h; exact (Array.getElem?_eq_some_iff.1 h).1
theorem Own.cell {w : World} {g : Nat} {cs : List Value} (h : Own w g cs) : ∀ j, j < cs.length → w.cell? ⟨g, 0 + j, none⟩ = some (cs.getD j undef) := by
  obtain ⟨cur, e, h, hc⟩ := h
  intro j hj
  rw [Nat.zero_add, cell_of_cells h]; exact hc j hj
theorem Own.frozen {w : World} {g : Nat} {cs : List Value} (h : Own w g cs) (j : Nat) : w.frozen? ⟨g, j, none⟩ = false := by
  obtain ⟨cur, e, h, _⟩ := h
  simp [World.frozen?, h]
theorem Own.set {w : World} {g : Nat} {cs : List Value} (h : Own w g cs) (j : Nat) (x : Value) : Own (w.setCell ⟨g, j, none⟩ x) g (cs.set j x) := by
  obtain ⟨cur, e, h, hc⟩ := h
  refine ⟨cur.setIfInBounds j x, e, ?_, ?_⟩
  · have hg := (Array.getElem?_eq_some_iff.1 h).1
    simp [World.setCell, Array.getElem?_modify, h]
  · intro i hi
    rw [List.length_set] at hi
    have := hc i hi
    have hi' := (Array.getElem?_eq_some_iff.1 this).1
    rw [List.getD_eq_getElem?_getD, List.getElem?_set, Array.getElem?_setIfInBounds]
    by_cases hij : j = i
    · subst hij; simp [hi, hi']
    · simp only [hij, if_false]; rw [this, List.getD_eq_getElem?_getD]
theorem Own.other {w : World} {g : Nat} {cs : List Value} (h : Own w g cs) {a : Addr} (ha : a.block ≠ g) (x : Value) : Own (w.setCell a x) g cs := by
  obtain ⟨cur, e, h, hc⟩ := h
  refine ⟨cur, e, ?_, hc⟩
  simp [World.setCell, Array.getElem?_modify, ha, h]
theorem Own.below {w w' : World} {g : Nat} {cs : List Value} (h : Own w g cs) (hb : Below w.heap.size w w') : Own w' g cs := by
  have hg := h.lt
  obtain ⟨cur, e, h, hc⟩ := h
  exact ⟨cur, e, (hb.block g hg).trans h, hc⟩
theorem Own.drewN {w : World} {g : Nat} {cs : List Value} (h : Own w g cs) (q : Nat) : Own (w.drewN q) g cs := h
theorem Own.of_owns {w : World} {base e sz n m cap g : Nat} {cs : List Value} (h : w.ownsRow base e sz (.slice (some ⟨g, 0, none⟩) n cap) m cs) : Own w g cs := by
  obtain ⟨hl, h⟩ := h
  rcases h with ⟨h, _⟩ | ⟨g', cap', cur, hv, hb, hg, hc, hm, hs, ht⟩
  · cases h
  · cases hv
    refine ⟨cur, e, hg, fun j hj => ?_⟩
    rw [← ht, List.getD_eq_getElem?_getD, List.getElem?_take, if_pos (by omega), Array.getElem?_toList]
    rw [Array.getElem?_eq_getElem (by rw [hs]; have := Nat.mul_le_mul_right sz hc; omega)]
    rfl
theorem Own.sl {w : World} {g n cap sz : Nat} {cs : List Value} (h : Own w g cs) (hn : n ≤ 281474976710656) (hc : n ≤ cap) (hl : cs.length = n * sz) : Sl w (.slice (some ⟨g, 0, none⟩) n cap) sz n cs :=
  ⟨_, cap, rfl, ⟨hn, hc⟩, hl, (fun h => by cases h), .inr ⟨g, 0, rfl, h.lt, h.cell⟩⟩
theorem Own.new {w : World} {g : Nat} (hg : g = w.heap.size) (cs : List Value) (e : TypeId) : Own (w.alloc (.cells cs.toArray e)) g cs := by
  subst hg
  refine ⟨cs.toArray, e, heap_alloc_new w _, fun j hj => ?_⟩
  rw [List.getD_eq_getElem?_getD, List.getElem?_eq_getElem hj]; simp [hj]
theorem Own.alloc {w : World} {g : Nat} {cs : List Value} (h : Own w g cs) (o : Obj) : Own (w.alloc o) g cs := h.below (boxed_below w o)
/-- what append or make gave: nothing at all, or a block of the call's own -/
theorem owns_cases {w : World} {base e sz n : Nat} {v : Value} {cs : List Value} (h : w.ownsRow base e sz v n cs) : (v = .slice none 0 0 ∧ n = 0) ∨ ∃ g cap, v = .slice (some ⟨g, 0, none⟩) n cap ∧ base ≤ g ∧ n ≤ cap ∧ Own w g cs := by
  have h' := h
  obtain ⟨hl, h⟩ := h
  rcases h with h | ⟨g, cap, cur, hv, hb, hg, hc, hm, hs, ht⟩
  · exact .inl h
  · subst hv
    exact .inr ⟨g, cap, rfl, hb, hc, Own.of_owns h'⟩

/-! rules for the walk: a cell behind a store (have r1 := set_same; have r2 := set_off; have r3 := set_blk) -/
theorem set_same (w : World) (g j : Nat) (x : Value) : (w.setCell ⟨g, j, none⟩ x).cell? ⟨g, j, none⟩ = (w.cell? ⟨g, j, none⟩).map fun _ => x := by
  cases h : w.cell? ⟨g, j, none⟩ with
  | some u => exact World.cell?_setCell_same _ _ _ h
  | none =>
    unfold World.cell? at h
    simp only [World.setCell, World.cell?, Array.getElem?_modify, if_true]
    cases hh : w.heap[g]? with
    | none => rfl
    | some o =>
      rw [hh] at h
      cases o <;> simp_all
theorem set_off (w : World) (g i j : Nat) (x : Value) (h : i ≠ j) : (w.setCell ⟨g, i, none⟩ x).cell? ⟨g, j, none⟩ = w.cell? ⟨g, j, none⟩ :=
  World.cell?_setCell_other _ _ _ _ (fun e => h (by injection e))
theorem set_blk (w : World) (g g' i j : Nat) (x : Value) (h : g ≠ g') : (w.setCell ⟨g, i, none⟩ x).cell? ⟨g', j, none⟩ = w.cell? ⟨g', j, none⟩ :=
  World.cell?_setCell_other _ _ _ _ (fun e => h (by injection e))
end Go.Proofs.YtmciccnmpoijdaaGreatDoor
namespace Go.Proofs.YtmciccnmpoijdaaGreatDoor
open Go Go.RowKit
set_option maxRecDepth 20000
open Go.Maps (Keyed)

abbrev whatV (a b c : Int) : Value := .agg #[I a, I b, I c]
theorem rowWhat : (146 : TypeId) < Tryz.prog.types.size := of_decide_eq_true (by kernel_rfl)
theorem wideWhat : (match Tryz.prog.underlying 146 with | some (.array _ _) | some (.struct _) => true | _ => false) = true := by rw [Tryz.underlying146]
theorem whatK : Keyed Tryz.prog 146 := Keyed.of_law (deep_law_laid laidOut (m := 2) (by omega) rowWhat (by kernel_rfl) wideWhat)
theorem keyType_what : Tryz.prog.keyType 146 = true := by kernel_rfl
theorem cells_what : Tryz.prog.cellsOf 146 = 3 := by kernel_rfl
theorem cells_int : Tryz.prog.cellsOf 3 = 1 := by kernel_rfl
theorem zero_int (w : World) : (zeroValue 3).run Tryz.prog w = .ok (I 0) w := by kernel_rfl
theorem wf64 {a : Int} (h : I64 a) : (Lit.int .i64 a).wf = true := by
  obtain ⟨h0, h1⟩ := h
  show (decide (IntKind.i64.min ≤ a) && decide (a ≤ IntKind.i64.max)) = true
  have e0 : IntKind.i64.min = -9223372036854775808 := rfl
  have e1 : IntKind.i64.max = 9223372036854775807 := rfl
  rw [e0, e1, Bool.and_eq_true, decide_eq_true_eq, decide_eq_true_eq]
  exact ⟨h0, h1⟩
theorem keyOf_what {a b c : Int} (ha : I64 a) (hb : I64 b) (hc : I64 c) : ∃ l, keyOf Tryz.prog 146 (whatV a b c) = some l := by
  have hf : (whatV a b c).formed Tryz.prog 146 = true := by simp [Value.formed, Tryz.underlying146, cells_what]
  obtain ⟨d, hd⟩ : ∃ d, Tryz.prog.types.size = d + 1 := ⟨Tryz.prog.types.size - 1, by have : 0 < Tryz.prog.types.size := of_decide_eq_true (by kernel_rfl); omega⟩
  refine ⟨.string (keyBytes [.int .i64 a, .int .i64 b, .int .i64 c]), ?_⟩
  · unfold keyOf
    rw [Tryz.underlying146, keyType_what, hf, hd]
    simp only [Bool.and_self, if_true]
    simp [Program.keyLits, Tryz.underlying146, Tryz.underlying3, cells_what, cells_int, wf64 ha, wf64 hb, wf64 hc, Value.cells]

def keyIs (x y z : Int) (p : APair) : Bool := decide (p.meter = x) && (decide (p.rev = y) && decide (p.body = z))
theorem keyIs_true {x y z : Int} {p : APair} : keyIs x y z p = true ↔ p.meter = x ∧ p.rev = y ∧ p.body = z := by simp [keyIs]
def hasKey (ps : List APair) (x y z : Int) : Bool := ps.any (keyIs x y z)
def tagOf (ps : List APair) (x y z : Int) : Int := match ps.find? (keyIs x y z) with | some p => p.tag | none => 0
/-- block b is a map of just these pairs, no two under one key -/
def OwnMap (w : World) (b : Nat) (ps : List APair) : Prop := (∃ es clock, w.heap[b]? = some (.map es clock) ∧ es.toList.map (fun e => (e.key, e.val)) = ps.map fun p => (whatV p.meter p.rev p.body, I p.tag)) ∧ (∀ p ∈ ps, p.wf) ∧ ps.Pairwise fun p q => keyIs p.meter p.rev p.body q = false
theorem OwnMap.lt {w : World} {b : Nat} {ps : List APair} (h : OwnMap w b ps) : b < w.heap.size := by
  obtain ⟨⟨es, clock, h, _⟩, _⟩ := h; exact (Array.getElem?_eq_some_iff.1 h).1
theorem OwnMap.below {w w' : World} {b : Nat} {ps : List APair} (h : OwnMap w b ps) (k : Below w.heap.size w w') : OwnMap w' b ps := by
  have hl := h.lt
  obtain ⟨⟨es, clock, h, e⟩, r⟩ := h
  exact ⟨⟨es, clock, (k.block b hl).trans h, e⟩, r⟩
theorem OwnMap.new (w : World) : OwnMap (w.alloc (.map #[] 0)) w.heap.size [] := ⟨⟨#[], 0, (MapKept.heap_alloc w _).1, rfl⟩, (fun p hp => by simp at hp), List.Pairwise.nil⟩
theorem whatV_inj {a b c a' b' c' : Int} (h : whatV a b c = whatV a' b' c') : a = a' ∧ b = b' ∧ c = c' := by simpa using h
theorem run_look {w : World} {b : Nat} {ps : List APair} (h : OwnMap w b ps) {x y z : Int} (hx : I64 x) (hy : I64 y) (hz : I64 z) :
    (Instr.lookup 116 (.map (some b)) (whatV x y z) true).run Tryz.prog w = .ok (.tuple #[I (tagOf ps x y z), .bool (hasKey ps x y z)]) w := by
  obtain ⟨⟨es, clock, hb, he⟩, hwf, hpw⟩ := h
  obtain ⟨l, hl⟩ := keyOf_what hx hy hz
  have hkeys : ∀ e ∈ es.toList, ∃ p ∈ ps, e.key = whatV p.meter p.rev p.body ∧ e.val = I p.tag := fun e hm => by
    have : (e.key, e.val) ∈ ps.map fun p => (whatV p.meter p.rev p.body, I p.tag) := by rw [← he]; exact List.mem_map.2 ⟨e, hm, rfl⟩
    obtain ⟨p, hp, hh⟩ := List.mem_map.1 this
    simp only [Prod.mk.injEq] at hh
    exact ⟨p, hp, hh.1.symm, hh.2.symm⟩
  have hread : ∀ e ∈ es.toList, ∃ l, keyOf Tryz.prog 146 e.key = some l := fun e hm => by
    obtain ⟨p, hp, h1, -⟩ := hkeys e hm
    obtain ⟨w0, w1, w2, -⟩ := hwf p hp
    rw [h1]
    exact keyOf_what w0 w1 w2
  have hrun : ∀ r : Option (Nat × Value), (Instr.findKey 146 (whatV x y z) es.toList).run Tryz.prog w = .ok r w → (Instr.lookup 116 (.map (some b)) (whatV x y z) true).run Tryz.prog w = .ok (match r with | some (_, v) => .tuple #[v, .bool true] | none => .tuple #[I 0, .bool false]) w := fun r hr => by
    cases r with
    | none => simp [Instr.lookup, run_underlying Tryz.underlying116, MapKept.run_getObj_map hb, whatK.check w _ hl, hr, zero_int, Result.andThen]
    | some q => simp [Instr.lookup, run_underlying Tryz.underlying116, MapKept.run_getObj_map hb, whatK.check w _ hl, hr, Result.andThen]
  rcases whatK.find w hl es.toList hread with ⟨h1, h2⟩ | ⟨j, e, h1, h2, h3⟩
  · rw [hrun _ h1]
    have hno : ∀ p ∈ ps, keyIs x y z p = false := fun p hp => by
      rw [← Bool.not_eq_true, keyIs_true]
      rintro ⟨rfl, rfl, rfl⟩
      have : (whatV p.meter p.rev p.body, I p.tag) ∈ es.toList.map (fun e => (e.key, e.val)) := by rw [he]; exact List.mem_map.2 ⟨p, hp, rfl⟩
      obtain ⟨e, hm, hh⟩ := List.mem_map.1 this
      simp only [Prod.mk.injEq] at hh
      exact h2 e hm hh.1
    have e1 : ps.find? (keyIs x y z) = none := List.find?_eq_none.2 fun p hp => by rw [hno p hp]; simp
    have e2 : hasKey ps x y z = false := by
      rw [hasKey, List.any_eq_false]
      exact fun p hp => by rw [hno p hp]; simp
    rw [tagOf, e1, e2]
  · rw [hrun _ h1]
    obtain ⟨p, hp, k1, k2⟩ := hkeys e (List.mem_of_getElem? h2)
    rw [h3] at k1
    obtain ⟨rfl, rfl, rfl⟩ := whatV_inj k1
    have e2 : hasKey ps p.meter p.rev p.body = true := List.any_eq_true.2 ⟨p, hp, keyIs_true.2 ⟨rfl, rfl, rfl⟩⟩
    have e1 : ps.find? (keyIs p.meter p.rev p.body) = some p := by
      clear hrun h1 h2 h3 hkeys hread he hl hb k1 k2 e2
      induction ps with
      | nil => cases hp
      | cons q r ih =>
        rw [List.find?_cons]
        obtain ⟨hq, hr⟩ := List.pairwise_cons.1 hpw
        rcases List.mem_cons.1 hp with rfl | hp'
        · rw [keyIs_true.2 ⟨rfl, rfl, rfl⟩]
        · have hn : keyIs p.meter p.rev p.body q = false := by
            have := hq p hp'
            rw [← Bool.not_eq_true, keyIs_true] at this ⊢
            exact fun h => this ⟨h.1.symm, h.2.1.symm, h.2.2.symm⟩
          rw [hn]
          exact ih (fun p hp => hwf p (List.mem_cons_of_mem _ hp)) hr hp'
    rw [tagOf, e1, e2, k2]
theorem run_put {w : World} {b : Nat} {ps : List APair} (h : OwnMap w b ps) {p : APair} (hp : p.wf) (hno : hasKey ps p.meter p.rev p.body = false) :
    ∃ w', (Instr.mapUpdate 116 (.map (some b)) (whatV p.meter p.rev p.body) (I p.tag)).run Tryz.prog w = .ok () w' ∧ OwnMap w' b (ps ++ [p]) ∧ ∀ B a, Below B a w → B ≤ b → Below B a w' := by
  obtain ⟨⟨es, clock, hb, he⟩, hwf, hpw⟩ := h
  obtain ⟨w0, w1, w2, w3⟩ := hp
  obtain ⟨l, hl⟩ := keyOf_what w0 w1 w2
  have hkeys : ∀ e ∈ es.toList, ∃ p ∈ ps, e.key = whatV p.meter p.rev p.body ∧ e.val = I p.tag := fun e hm => by
    have : (e.key, e.val) ∈ ps.map fun p => (whatV p.meter p.rev p.body, I p.tag) := by rw [← he]; exact List.mem_map.2 ⟨e, hm, rfl⟩
    obtain ⟨p, hp, hh⟩ := List.mem_map.1 this
    simp only [Prod.mk.injEq] at hh
    exact ⟨p, hp, hh.1.symm, hh.2.symm⟩
  have hread : ∀ e ∈ es.toList, ∃ l, keyOf Tryz.prog 146 e.key = some l := fun e hm => by
    obtain ⟨p, hp, h1, -⟩ := hkeys e hm
    obtain ⟨w0, w1, w2, -⟩ := hwf p hp
    rw [h1]
    exact keyOf_what w0 w1 w2
  have hnone : ∀ q ∈ ps, keyIs p.meter p.rev p.body q = false := fun q hq => by
    rw [hasKey, List.any_eq_false] at hno
    have := hno q hq
    simpa using this
  rcases whatK.find w hl es.toList hread with ⟨h1, h2⟩ | ⟨j, e, h1, h2, h3⟩
  · refine ⟨{ w with heap := w.heap.setIfInBounds b (.map (es.push { key := whatV p.meter p.rev p.body, val := I p.tag, born := clock }) (clock + 1)) }, ?_, ⟨⟨es.push { key := whatV p.meter p.rev p.body, val := I p.tag, born := clock }, clock + 1, ?_, ?_⟩, ?_, ?_⟩, ?_⟩
    · simp [Instr.mapUpdate, run_underlying Tryz.underlying116, MapKept.run_getObj_map hb, whatK.check w _ hl, h1, MapKept.run_setObj_map _ hb, Result.andThen]
    · have := (Array.getElem?_eq_some_iff.1 hb).1
      simp [Array.getElem?_setIfInBounds, this]
    · simp [he]
    · intro q hq
      rcases List.mem_append.1 hq with hq | hq
      · exact hwf q hq
      · simp at hq; subst hq; exact ⟨w0, w1, w2, w3⟩
    · rw [List.pairwise_append]
      refine ⟨hpw, List.pairwise_singleton _ _, fun q hq r hr => ?_⟩
      simp at hr
      subst hr
      have := hnone q hq
      rw [← Bool.not_eq_true, keyIs_true] at this ⊢
      exact fun h => this ⟨h.1.symm, h.2.1.symm, h.2.2.symm⟩
    · intro B a hB hb'
      refine hB.trans ⟨rfl, rfl, rfl, by simp, fun k hk => ?_⟩
      have : b ≠ k := by omega
      simp [Array.getElem?_setIfInBounds, this]
  · obtain ⟨q, hq, k1, k2⟩ := hkeys e (List.mem_of_getElem? h2)
    rw [h3] at k1
    obtain ⟨a1, a2, a3⟩ := whatV_inj k1
    have := hnone q hq
    rw [← Bool.not_eq_true, keyIs_true] at this
    exact absurd ⟨a1.symm, a2.symm, a3.symm⟩ this
end Go.Proofs.YtmciccnmpoijdaaGreatDoor
