/- From a walk ("the law returns true, nothing below the old heap's end has turned") to the given row's contract: one lemma for every law, whatever its parameters. · The wrap of a row that lists variables: the contract is handed what they hold, the arguments' reach and the world's shape. · Words of our own for contracts: what a call returns, behind a name, so that the walk leaves it alone. · a slice that reads as a list of cells -/
import Derived.Test.YtmciccnmpoijdaaGreatDoorRows
import Derived.WalkKit
import Derived.ProofKit
import Derived.OpenShut
import Derived.SizedLaws
import Derived.Carry
import Derived.LaidMore
import Derived.Lay
import Derived.SevenTiedAt
import Derived.Stop.Joined
import Derived.HandedShaped
import Derived.Test.YtmciccnmpoijdaaGreatDoorProg
import Derived.Lib.Hide
import Derived.WalkSpells
import Derived.WalkLawsBesides
import Derived.BigQuiet
import Derived.Deep.QuietTactic
import Derived.Laws.AppendOwnNone
namespace Go.Proofs.YtmciccnmpoijdaaGreatDoor
open Go.ChangeShapes Go.WideShapes Go.ChangeAt Go.RowKit
set_option maxRecDepth 20000

theorem own : ownKnob Tryz.prog.godebug = none := by kernel_rfl
theorem laidOut : laidOutB Tryz.prog = true := by kernel_rfl

/-- every parameter's type can be read and is a row of the table -/
def rowed (P : Program) (ts : List TypeId) : Bool := ts.all fun t => P.readableRec t && decide (t < P.types.size)

theorem trodAll_below {H : Type} {enc : TypeId × Value → H} {P : Program} (hl : laidOutB P = true) {W W' : World} (hb : Below W.heap.size W W') :
    ∀ {ts : List TypeId} {vs : List Value} {ds : List (DataW H)} {ps : List MemPlace}, rowed P ts = true → (∀ x ∈ ps, x.block < W.heap.size) →
      DataW.TrodAll enc P W 0 (fun _ => true) true ts vs ds ps → DataW.TrodAll enc P W' 0 (fun b => decide (b < W.heap.size)) true ts vs ds ps
  | [], _, _, _, _, _, h => by
    obtain ⟨rfl, rfl, rfl⟩ := trodAll_nil h
    exact trodAll_mk0
  | t :: ts, _, _, _, hr, hlt, h => by
    obtain ⟨v, vs1, d, ds1, p, q, rfl, rfl, rfl, h1, h2⟩ := trodAll_cons h
    simp only [rowed, List.all_cons, Bool.and_eq_true, decide_eq_true_eq] at hr
    refine ⟨p, q, Below.trod hl hr.1.1 hr.1.2 h1 hb (fun x hx => hlt x (by simp [hx])), ?_, rfl⟩
    exact trodAll_below hl hb (by simpa [rowed] using hr.2) (fun x hx => hlt x (by simp [hx])) h2

theorem trodAll_len {H : Type} {enc : TypeId × Value → H} {P : Program} {W : World} {b : Nat} {sp : Nat → Bool} {hd : Bool} :
    ∀ {ts : List TypeId} {vs : List Value} {ds : List (DataW H)} {ps : List MemPlace}, DataW.TrodAll enc P W b sp hd ts vs ds ps → ds.length = ts.length
  | [], _, _, _, h => by
    obtain ⟨rfl, rfl, rfl⟩ := trodAll_nil h
    rfl
  | _ :: _, _, _, _, h => by
    obtain ⟨v, vs1, d, ds1, p, q, rfl, rfl, rfl, h1, h2⟩ := trodAll_cons h
    simp [trodAll_len h2]

/-- The law's call returned true and nothing that was there has turned: so the row's 'post' holds. -/
theorem post_true {H : Type} {enc : TypeId × Value → H} {P : Program} {fn : Func} {s : ChangeSpec} {bt : TypeId}
    (hv : s.vars = []) (hl : laidOutB P = true) (hr : rowed P fn.params.toList = true)
    (hb : P.underlying bt = some .bool) (hrt : fn.resultTypes = #[bt])
    (hfn : ∀ ds : List (DataW H), ds.length = fn.params.size → s.fn H ds = { results := [.lit (.bool true)], args := ds })
    {W W' : World} {args : Array Value} {ds gs : List (DataW H)} {before : List MemPlace} (hwhole : DataW.Whole enc P fn.params.toList s.vars false W args.toList ds gs before)
    (hbel : Below W.heap.size W W') : s.post enc P fn false true false false W args (.bool true) W' := by
  have hlt := hwhole.lt
  have hwhole0 := hwhole
  obtain ⟨p, q, hA, hV, rfl, hfz, hnd⟩ := hwhole
  rw [hv] at hV
  obtain ⟨rfl, rfl⟩ := trodVars_none hV
  have hds : ds.length = fn.params.size := by simpa using trodAll_len hA
  have hs : s.fn H (ds ++ []) = { results := [.lit (.bool true)], args := ds } := by rw [List.append_nil]; exact hfn ds hds
  refine ⟨ds, [], p ++ [], [], p, [], hwhole0, ?_, ?_, ?_, hbel.frame _, fun h => by cases h⟩
  · rw [hs, hrt]
    exact trodAll_mk1 (shut_bool hb true)
  · rw [hs]
    exact trodAll_below hl hbel hr (fun x hx => hlt x (by simp [hx])) hA
  · rw [hs, hv]
    exact rfl

end Go.Proofs.YtmciccnmpoijdaaGreatDoor
namespace Go.Proofs.YtmciccnmpoijdaaGreatDoor
open Go.ChangeShapes Go.WideShapes Go.ChangeAt Go.RowKit
set_option maxRecDepth 20000

theorem handed_all {H : Type} {enc : TypeId × Value → H} {C : Checked} {os : Os} {f : FuncId} {fn : Func} {s : ChangeSpec} {conds : List PathCond} {X : World → Prop}
    (hX : ∀ w w' : World, w.heap = w'.heap → X w → X w')
    (own : ownKnob C.prog.godebug = none) (started : os.Started) (noInit : C.prog.inits.idxOf? f = none) (hfn : C.prog.funcs[f]? = some fn)
    (witness : ∃ (w : World) (tape : Tape) (i : Input), w.os = os ∧ (w.forCall tape i).Shaped C.prog ∧ i.vars = [] ∧ Input.okWide C.prog (w.forCall tape i) .any w.heap.size f i ∧
      ((s.pre enc C.prog fn conds false (w.forCall tape i).memory i.args ∧ X (w.forCall tape i).memory) ∧ sizedMet enc C.prog fn (OpenSpec.ofChange s) false (w.forCall tape i).memory i.args) ∧
      Assume.holds {} C.prog (lone (Frame.enter C.prog f i.args .normal) [] (w.forCall tape i)))
    (walk : ∀ (W : World) (base : Nat) (args : Array Value) (ds gs : List (DataW H)) (before : List MemPlace),
      (∀ (j : Nat) t v, fn.params[j]? = some t → args[j]? = some v → Value.okWide C.prog W .any base t v) →
      DataW.Whole enc C.prog fn.params.toList s.vars false W args.toList ds gs before →
      (DataW.weightsEach C.prog (fn.params.toList ++ s.plain.varTypes C.prog) (ds ++ gs)).all (· ≤ reachBytes) = true → X W → W.ShapedOpen C.prog →
      Calls C.prog f args W fun e W' => ∃ v, e = .returned v ∧ s.post enc C.prog fn false true false false W args v W') :
    ReturnsInHanded {} C os f .any (fun w args => (s.pre enc C.prog fn conds false w args ∧ X w) ∧ sizedMet enc C.prog fn (OpenSpec.ofChange s) false w args) (s.post enc C.prog fn false true false false) := by
  refine returnsInHanded_of_calls own started noInit witness fun w tape i _ hsh _ hok hpre _ => ?_
  obtain ⟨_, _, _, fn', hfn', _, _, _, _, hval⟩ := hok
  obtain rfl : fn' = fn := Option.some.inj (hfn'.symm.trans hfn)
  have hq : (w.forCall tape i).memory.heap = (w.forCall tape i).heap := rfl
  refine (walk _ w.heap.size i.args _ _ _ hval (DataW.Whole.of_heap hq hpre.1.1.choose_spec.choose_spec.choose_spec.1) (hpre.2.weights hpre.1.1.choose_spec.choose_spec.choose_spec.1) (hX _ _ hq hpre.1.2) hsh).mono ?_
  rintro _ W' ⟨v, rfl, hp⟩
  exact ChangeSpec.post_blind hp
end Go.Proofs.YtmciccnmpoijdaaGreatDoor
namespace Go.Proofs.YtmciccnmpoijdaaGreatDoor
open Go.RowKit
set_option maxRecDepth 20000

/-- the call returns v; the world is as it was -/
def Pure (v : Value) (w : World) (e : Ending) (w' : World) : Prop := e = .returned v ∧ w = w'
theorem Pure.intro {v v' : Value} {w : World} (h : v' = v) : Pure v w (.returned v') w := ⟨by rw [h], rfl⟩

/-- the call returns v; what was there is as it was -/
def Grew (v : Value) (w : World) (e : Ending) (w' : World) : Prop := e = .returned v ∧ Below w.heap.size w w'
theorem Grew.intro {v v' : Value} {w w' : World} (h : v' = v) (hb : Below w.heap.size w w') : Grew v w (.returned v') w' := ⟨by rw [h], hb⟩
theorem Pure.grew {v : Value} {w w' : World} {e : Ending} (h : Pure v w e w') : Grew v w e w' := by obtain ⟨rfl, rfl⟩ := h; exact ⟨rfl, Below.refl _ _⟩

theorem drewN_below {B : Nat} {a w : World} (h : Below B a w) (n : Nat) : Below B a (w.drewN n) := ⟨h.os, h.tape, h.output, h.size, h.block⟩

theorem Grew.grew {v : Value} {w w' : World} {e : Ending} (h : Grew v w e w') : Grew v w e w' := h

theorem Pure.same {P : Program} {f : FuncId} {args : Array Value} {w : World} {v : Value} (h : Calls P f args w (Pure v w)) : Calls P f args w (fun e w' => e = .returned v ∧ w' = w) := h.mono fun _ _ ⟨h1, h2⟩ => ⟨h1, h2.symm⟩
theorem Pure.quiet {P : Program} {f : FuncId} {args : Array Value} {w : World} {n : Nat} {v : Value} (h : Calls P f args (w.drewN n) (Pure v (w.drewN n))) : Calls P f args (w.drewN n) (fun e w' => e = .returned v ∧ w' = w.drewN n) := Pure.same h
theorem Pure.quiet2 {P : Program} {f : FuncId} {args : Array Value} {w : World} {a n : Nat} {v : Value} (h : Calls P f args (w.drewN (a + n)) (Pure v (w.drewN (a + n)))) :
    Calls P f args (w.drewN (a + n)) fun e w'' => e = .returned v ∧ ∃ m, w'' = w.drewN (a + m) := h.mono fun _ _ ⟨he, hm⟩ => ⟨he, n, hm.symm⟩
theorem boxed_below (w : World) (o : Obj) : Below w.heap.size w (w.alloc o) := (Below.refl _ _).alloc (Nat.le_refl _) _

/-- all old cells and marks read as before: two rules for the walk -/
theorem bcell {W w1 : World} (hb : Below W.heap.size W w1) : (∀ b o, b < W.heap.size → w1.cell? ⟨b, o, none⟩ = W.cell? ⟨b, o, none⟩) ∧ (∀ b o, b < W.heap.size → w1.frozen? ⟨b, o, none⟩ = W.frozen? ⟨b, o, none⟩) :=
  ⟨fun b o h => hb.cell (p := ⟨b, o, none⟩) h, fun b o h => hb.frozen (p := ⟨b, o, none⟩) h⟩
theorem below_box {w w1 : World} {o : Obj} (h : Below (w.alloc o).heap.size (w.alloc o) w1) : Below w.heap.size w w1 := (boxed_below w o).trans (h.mono (by simp))

/-- an int -/
abbrev I (n : Int) : Value := .int .i64 n
/-- two, three, four results -/
abbrev T2 (a b : Value) : Value := .tuple #[a, b]
abbrev T3 (a b c : Value) : Value := .tuple #[a, b, c]
abbrev T4 (a b c d : Value) : Value := .tuple #[a, b, c, d]

theorem eI {a b : Int} (h : a = b) : I a = I b := by rw [h]
theorem eI2 {a b a' b' : Int} (h : a = a') (k : b = b') : T2 (I a) (I b) = T2 (I a') (I b') := by rw [h, k]
theorem eI3 {a b c a' b' c' : Int} (h : a = a') (k : b = b') (l : c = c') : T3 (I a) (I b) (I c) = T3 (I a') (I b') (I c') := by rw [h, k, l]
theorem eB {a b : Bool} (h : a = b) : Value.bool a = Value.bool b := by rw [h]

end Go.Proofs.YtmciccnmpoijdaaGreatDoor
namespace Go.Proofs.YtmciccnmpoijdaaGreatDoor
open Go.RowKit
set_option maxRecDepth 20000

/-- v is a slice of n elements of sz cells each, which are cs -/
def Sl (w : World) (v : Value) (sz n : Nat) (cs : List Value) : Prop :=
  ∃ a cap, v = .slice a n cap ∧ (n ≤ 281474976710656 ∧ n ≤ cap) ∧ cs.length = n * sz ∧ (a = none → n = 0 ∧ cap = 0) ∧
    (n = 0 ∨ ∃ b off, a = some ⟨b, off, none⟩ ∧ b < w.heap.size ∧ ∀ j, j < cs.length → w.cell? ⟨b, off + j, none⟩ = some (cs.getD j undef))

theorem Sl.below {w w' : World} {v : Value} {sz n : Nat} {cs : List Value} (h : Sl w v sz n cs) (hb : Below w.heap.size w w') : Sl w' v sz n cs := by
  obtain ⟨a, cap, hv, hn, hl, h0, h⟩ := h
  refine ⟨a, cap, hv, hn, hl, h0, h.imp id ?_⟩
  rintro ⟨b, off, ha, hlt, hc⟩
  exact ⟨b, off, ha, Nat.lt_of_lt_of_le hlt hb.size, fun j hj => (hb.cell (p := ⟨b, off + j, none⟩) hlt).trans (hc j hj)⟩

theorem Sl.drew {w : World} {v : Value} {sz n : Nat} {cs : List Value} (h : Sl w v sz n cs) : Sl w.drew v sz n cs := h
theorem Sl.drewN {w : World} {v : Value} {sz n : Nat} {cs : List Value} (h : Sl w v sz n cs) (q : Nat) : Sl (w.drewN q) v sz n cs := h
theorem Sl.nil (w : World) (sz : Nat) : Sl w (.slice none 0 0) sz 0 [] := ⟨none, 0, rfl, ⟨by omega, by omega⟩, by simp, fun _ => ⟨rfl, rfl⟩, .inl rfl⟩

theorem cell_of_cells {w : World} {g : Nat} {cur : Array Value} {e : TypeId} {fz : Nat × Nat} (h : w.heap[g]? = some (.cells cur e fz)) (j : Nat) : w.cell? ⟨g, j, none⟩ = cur[j]? := cell_of_row w g j cur e fz h

theorem Sl.of_owns {w : World} {base e sz n : Nat} {v : Value} {cs : List Value} (h : w.ownsRow base e sz v n cs) (hn : n ≤ 281474976710656) : Sl w v sz n cs := by
  obtain ⟨hl, h⟩ := h
  rcases h with ⟨rfl, rfl⟩ | ⟨g, cap, cur, rfl, hb, hg, hc, hm, hs, ht⟩
  · exact ⟨none, 0, rfl, ⟨by omega, by omega⟩, hl, fun _ => ⟨rfl, rfl⟩, .inl rfl⟩
  · refine ⟨_, cap, rfl, ⟨hn, hc⟩, hl, (fun h => by cases h), .inr ⟨g, 0, rfl, (Array.getElem?_eq_some_iff.1 hg).1, fun j hj => ?_⟩⟩
    rw [Nat.zero_add, cell_of_cells hg]
    rw [← ht, List.getD_eq_getElem?_getD, List.getElem?_take, if_pos (by omega), Array.getElem?_toList]
    rw [Array.getElem?_eq_getElem (by rw [hs]; have := Nat.mul_le_mul_right sz hc; omega)]
    rfl

theorem Sl.news {w : World} {ad : Addr} {sz n cap : Nat} {cs : List Value} (h : Sl w (.slice (some ad) n cap) sz n cs) : ∀ j u, cs[j]? = some u → w.cell? (ad.add j) = some u := by
  obtain ⟨a, cap', hv, hn, hl, h0, h⟩ := h
  simp only [Value.slice.injEq] at hv
  obtain ⟨rfl, _, rfl⟩ := hv
  intro j u hu
  have hj := (List.getElem?_eq_some_iff.1 hu).1
  rcases h with rfl | ⟨b, off, he, hlt, hc⟩
  · simp at hl; subst hl; simp at hj
  · obtain rfl := Option.some.inj he
    have := hc j hj
    rw [List.getD_eq_getElem?_getD, hu] at this
    unfold Addr.add
    split
    · subst_vars; simpa using this
    · exact this

theorem Sl.of_owns' {w : World} {base e sz n n' : Nat} {v : Value} {cs : List Value} (h : w.ownsRow base e sz v n' cs) (he : n' = n) (hn : n ≤ 281474976710656) : Sl w v sz n cs := by
  subst he; exact Sl.of_owns h hn

/-- each value is one cell -/
def oneCells (cs : List Value) : Prop := ∀ u ∈ cs, u.oneCell' = true
theorem oneCells_map {α : Type} {f : α → Value} (h : ∀ x, (f x).oneCell' = true) (xs : List α) : oneCells (xs.map f) := by
  intro u hu; simp only [List.mem_map] at hu; obtain ⟨x, _, rfl⟩ := hu; exact h x
theorem oneCells_flat {α : Type} {f : α → List Value} (h : ∀ x, oneCells (f x)) (xs : List α) : oneCells (xs.flatMap f) := by
  intro u hu; simp only [List.mem_flatMap] at hu; obtain ⟨x, _, hx⟩ := hu; exact h x u hx

/-- the call returns a slice that reads as cs, in new memory -/
def GrewSl (sz n : Nat) (cs : List Value) (w : World) (e : Ending) (w' : World) : Prop := ∃ v, e = .returned v ∧ Sl w' v sz n cs ∧ Below w.heap.size w w'

/-- the call returns a slice of its own, in new memory -/
def GrewOw (t sz n : Nat) (cs : List Value) (w : World) (e : Ending) (w' : World) : Prop := ∃ v, e = .returned v ∧ w'.ownsRow w.heap.size t sz v n cs ∧ Below w.heap.size w w'
/-- the call returns a slice that reads as cs, in new memory, and a number -/
def GrewSl2 (sz n : Nat) (cs : List Value) (k : Int) (w : World) (e : Ending) (w' : World) : Prop := ∃ v, e = .returned (T2 v (I k)) ∧ Sl w' v sz n cs ∧ Below w.heap.size w w'
theorem grown_below {w0 w w' : World} {v : Value} {base e sz n : Nat} {cs : List Value} (h : Below w0.heap.size w0 w) (ho : w.ownsRow base e sz v n cs) (hb : w0.heap.size ≤ base) (hg : w.grownBy w' v.ownBlock) : Below w0.heap.size w0 w' :=
  h.grown hg h.size (fun k hk => Nat.le_trans hb (ho.lt k hk).1)
theorem cell_one (w : World) (x : Value) (e : TypeId) : (w.alloc (.cells #[x] e)).cell? ⟨w.heap.size, 0, none⟩ = some x := by
  rw [cell_of_cells (heap_alloc_new w _)]; rfl
theorem news_one (w : World) (x : Value) (e : TypeId) : ∀ (j : Nat) (u : Value), [x][j]? = some u → (w.alloc (.cells #[x] e)).cell? ((⟨w.heap.size, 0, none⟩ : Addr).add j) = some u := by
  intro j u hj
  match j, hj with
  | 0, hj => simp at hj; subst hj; simp [Addr.add, cell_one w x e]
theorem news_lit (w : World) (cs : List Value) (e : TypeId) : ∀ (j : Nat) (u : Value), cs[j]? = some u → (w.alloc (.cells cs.toArray e)).cell? ((⟨w.heap.size, 0, none⟩ : Addr).add j) = some u := by
  intro j u hj
  have h : (w.alloc (.cells cs.toArray e)).cell? ⟨w.heap.size, j, none⟩ = some u := by rw [cell_of_cells (heap_alloc_new w _)]; simpa using hj
  unfold Addr.add
  split
  · subst_vars; exact h
  · simpa using h
theorem oneCells_lit {cs : List Value} (h : cs.all Value.oneCell' = true) : ∀ u ∈ cs, u.oneCell' = true := by simpa using h
theorem one_oneCell {x : Value} (h : x.oneCell' = true) : ∀ u ∈ [x], u.oneCell' = true := by intro u hu; simp at hu; rw [hu]; exact h

theorem made_one (x : Value) (n : Nat) : (madeCells #[x] (n * 1)).toList = List.replicate n x := by
  apply List.ext_getElem
  · simp [madeCells]
  · intro i h1 h2
    simp [madeCells, Nat.mod_one]

theorem made_int {w : World} {b e n : Nat} {v : Value} {k : IntKind} {z : Int} (h : w.ownsRow b e 1 v n (madeCells (Value.int k z).cells (n * 1)).toList) : w.ownsRow b e 1 v n (List.replicate n (.int k z)) := by
  rw [← made_one]; exact h

theorem owns_mono {w : World} {b b' e sz n : Nat} {v : Value} {cs : List Value} (h : w.ownsRow b e sz v n cs) (hb : b' ≤ b) : w.ownsRow b' e sz v n cs := by
  obtain ⟨hl, h⟩ := h
  refine ⟨hl, h.imp id ?_⟩
  rintro ⟨g, cap, cur, hv, hg, r⟩
  exact ⟨g, cap, cur, hv, Nat.le_trans hb hg, r⟩
theorem owns_drewN {w : World} {b e sz n : Nat} {v : Value} {cs : List Value} (h : w.ownsRow b e sz v n cs) (q : Nat) : (w.drewN q).ownsRow b e sz v n cs := h
theorem owns_pos {w : World} {base e sz n : Nat} {v : Value} {cs : List Value} (h : w.ownsRow base e sz v n cs) (hn : 0 < n) : ∃ g cap, v = .slice (some ⟨g, 0, none⟩) n cap ∧ base ≤ g ∧ g < w.heap.size := by
  obtain ⟨hl, h⟩ := h
  rcases h with ⟨rfl, rfl⟩ | ⟨g, cap, cur, rfl, hb, hg, _⟩
  · omega
  · exact ⟨g, cap, rfl, hb, (Array.getElem?_eq_some_iff.1 hg).1⟩
/-- its length, for a loop's measure -/
def lenOf : Value → Nat | .slice _ n _ => n | _ => 0
/-- a slice literal of plain cells -/
theorem owns_lit (w : World) (cs : List Value) (e sz n : Nat) (hl : cs.length = n * sz) (hn : n ≤ maxLen) : (w.alloc (.cells cs.toArray e)).ownsRow w.heap.size e sz (.slice (some ⟨w.heap.size, 0, none⟩) n n) n cs :=
  ⟨hl, .inr ⟨w.heap.size, n, cs.toArray, rfl, Nat.le_refl _, heap_alloc_new w _, Nat.le_refl _, hn, by simpa using hl, by rw [← hl]; simp⟩⟩

/-- numbers as cells -/
abbrev U32 (n : Int) : Value := .int .u32 n

end Go.Proofs.YtmciccnmpoijdaaGreatDoor
