/- the map of a keeper: where a meter's customer stands · what a sale answers, spelled as the walks meet it · two values of type Bill held against each other (made by wip/bin/gen_api.py) · solds: new memory for a list (made by wip/bin/gen_api.py) -/
import Derived.Test.YtenoigmkhlnfoaaPk23
import Derived.Maps.Own
import Derived.Maps.OwnOps
import Derived.Test.YtenoigmkhlnfoaaPk03
import Derived.Test.YtenoigmkhlnfoaaPk00
namespace Go.Proofs.Ytenoigmkhlnfoaa
set_option linter.unusedSimpArgs false
set_option linter.unusedVariables false
open Go Go.RowKit
set_option maxRecDepth 20000
open Go.Maps (Keyed)

theorem intK : Keyed Try.prog 3 := Go.Maps.int_keyed Try.underlying3
theorem zero_int0 (w : World) : (zeroValue 3).run Try.prog w = .ok (I 0) w := by kernel_rfl
theorem wf64i {a : Int} (h : I64 a) : (Lit.int .i64 a).wf = true := by
  obtain ⟨h0, h1⟩ := h
  show (decide (IntKind.i64.min ≤ a) && decide (a ≤ IntKind.i64.max)) = true
  have e0 : IntKind.i64.min = -9223372036854775808 := rfl
  have e1 : IntKind.i64.max = 9223372036854775807 := rfl
  rw [e0, e1, Bool.and_eq_true, decide_eq_true_eq, decide_eq_true_eq]
  exact ⟨h0, h1⟩
theorem keyOf_i {a : Int} (ha : I64 a) : ∃ l, keyOf Try.prog 3 (I a) = some l := ⟨_, Go.Maps.keyOf_int_mk Try.underlying3 (wf64i ha)⟩
/-- block b is a map that tells where each of these meters stands -/
def OwnIdx (w : World) (b : Nat) (ms : List Int) : Prop := (∃ es clock, w.heap[b]? = some (.map es clock) ∧ es.toList.map (fun e => (e.key, e.val)) = ms.zipIdx.map fun p => (I p.1, I (p.2 : Nat))) ∧ (∀ m ∈ ms, I64 m) ∧ ms.Nodup
theorem OwnIdx.lt {w : World} {b : Nat} {ms : List Int} (h : OwnIdx w b ms) : b < w.heap.size := by
  obtain ⟨⟨es, clock, h, _⟩, _⟩ := h; exact (Array.getElem?_eq_some_iff.1 h).1
theorem OwnIdx.heap {w w' : World} {b : Nat} {ms : List Int} (h : OwnIdx w b ms) (k : w'.heap[b]? = w.heap[b]?) : OwnIdx w' b ms := by
  obtain ⟨⟨es, clock, h, e⟩, r⟩ := h
  exact ⟨⟨es, clock, k.trans h, e⟩, r⟩
theorem OwnIdx.below {w w' : World} {b : Nat} {ms : List Int} (h : OwnIdx w b ms) (k : Below w.heap.size w w') : OwnIdx w' b ms := h.heap (k.block b h.lt)
theorem OwnIdx.new (w : World) : OwnIdx (w.alloc (.map #[] 0)) w.heap.size [] := ⟨⟨#[], 0, (MapKept.heap_alloc w _).1, rfl⟩, (fun p hp => by simp at hp), List.nodup_nil⟩
theorem entry_at {es : Array MapEntry} {ms : List Int} (he : es.toList.map (fun e => (e.key, e.val)) = ms.zipIdx.map fun p => (I p.1, I (p.2 : Nat))) {j : Nat} {e : MapEntry} (hj : es.toList[j]? = some e) : ∃ m, ms[j]? = some m ∧ e.key = I m ∧ e.val = I (j : Nat) := by
  have h1 : (es.toList.map (fun e => (e.key, e.val)))[j]? = some (e.key, e.val) := by rw [List.getElem?_map, hj]; rfl
  rw [he, List.getElem?_map, List.getElem?_zipIdx, Nat.zero_add] at h1
  cases hm : ms[j]? with
  | none => rw [hm] at h1; cases h1
  | some m =>
    rw [hm] at h1
    simp only [Option.map_some, Option.some.injEq, Prod.mk.injEq] at h1
    exact ⟨m, rfl, h1.1.symm, h1.2.symm⟩
theorem entry_mem {es : Array MapEntry} {ms : List Int} (he : es.toList.map (fun e => (e.key, e.val)) = ms.zipIdx.map fun p => (I p.1, I (p.2 : Nat))) {m : Int} (hm : m ∈ ms) : ∃ e ∈ es.toList, e.key = I m := by
  obtain ⟨j, hj, rfl⟩ := List.getElem_of_mem hm
  have h1 : (ms.zipIdx.map fun p => (I p.1, I (p.2 : Nat)))[j]? = some (I ms[j], I (j : Nat)) := by
    rw [List.getElem?_map, List.getElem?_zipIdx, Nat.zero_add, List.getElem?_eq_getElem hj]; rfl
  rw [← he, List.getElem?_map] at h1
  cases hq : es.toList[j]? with
  | none => rw [hq] at h1; cases h1
  | some e =>
    rw [hq] at h1
    simp only [Option.map_some, Option.some.injEq, Prod.mk.injEq] at h1
    exact ⟨e, List.mem_of_getElem? hq, h1.1⟩
theorem I_inj {a b : Int} (h : I a = I b) : a = b := by simpa using h
theorem findI_nodup {m : Int} {ms : List Int} (hn : ms.Nodup) {j : Nat} (hj : ms[j]? = some m) : findI m ms 0 = (j : Int) := by
  obtain ⟨hlt, he⟩ := List.getElem?_eq_some_iff.1 hj
  have := findI_hit (me := m) ms 0 j hlt (fun q hq h => by
    rw [List.getD_eq_getElem?_getD, List.getElem?_eq_getElem (by omega)] at h
    have h : ms[q]'(by omega) = ms[j] := by rw [he]; exact h
    have hq2 : q < ms.length := by omega
    exact absurd h ((List.pairwise_iff_getElem.1 hn) q j hq2 hlt hq)) (by rw [List.getD_eq_getElem?_getD, hj]; rfl)
  rw [this]
  omega
def idxA (ms : List Int) (m : Int) : Int := if 0 ≤ findI m ms 0 then findI m ms 0 else 0
theorem run_lookI {w : World} {b : Nat} {ms : List Int} (h : OwnIdx w b ms) {m : Int} (hm : I64 m) :
    (Instr.lookup 65 (.map (some b)) (I m) true).run Try.prog w = .ok (.tuple #[I (idxA ms m), .bool (decide (0 ≤ findI m ms 0))]) w := by
  obtain ⟨⟨es, clock, hb, he⟩, hwf, hnd⟩ := h
  obtain ⟨l, hl⟩ := keyOf_i hm
  have hread : ∀ e ∈ es.toList, ∃ l, keyOf Try.prog 3 e.key = some l := fun e hmm => by
    obtain ⟨j, hj, he2⟩ := List.getElem_of_mem hmm
    obtain ⟨q, h1, h2, -⟩ := entry_at he (j := j) (e := e) (by rw [List.getElem?_eq_getElem hj, he2])
    rw [h2]
    exact keyOf_i (hwf q (List.mem_of_getElem? h1))
  have hrun : ∀ r : Option (Nat × Value), (Instr.findKey 3 (I m) es.toList).run Try.prog w = .ok r w → (Instr.lookup 65 (.map (some b)) (I m) true).run Try.prog w = .ok (match r with | some (_, v) => .tuple #[v, .bool true] | none => .tuple #[I 0, .bool false]) w := fun r hr => by
    cases r with
    | none => simp [Instr.lookup, run_underlying Try.underlying65, MapKept.run_getObj_map hb, intK.check w _ hl, hr, zero_int0, Result.andThen]
    | some q => simp [Instr.lookup, run_underlying Try.underlying65, MapKept.run_getObj_map hb, intK.check w _ hl, hr, Result.andThen]
  rcases intK.find w hl es.toList hread with ⟨h1, h2⟩ | ⟨j, e, h1, h2, h3⟩
  · rw [hrun _ h1]
    have hno : findI m ms 0 = -1 := findI_none ms 0 fun q hq hh => by
      obtain ⟨e, hmm, hk⟩ := entry_mem he (m := m) (by rw [← hh, List.getD_eq_getElem?_getD, List.getElem?_eq_getElem hq]; exact List.getElem_mem hq)
      exact h2 e hmm hk
    unfold idxA
    rw [hno]
    rfl
  · rw [hrun _ h1]
    obtain ⟨q, g1, g2, g3⟩ := entry_at he h2
    rw [h3] at g2
    have := I_inj g2
    subst this
    have hf := findI_nodup hnd g1
    unfold idxA
    rw [hf, g3, if_pos (by omega), decide_eq_true (by omega)]
theorem run_putI {w : World} {b : Nat} {ms : List Int} (h : OwnIdx w b ms) {m : Int} (hm : I64 m) (hno : ¬ 0 ≤ findI m ms 0) :
    ∃ w', (Instr.mapUpdate 65 (.map (some b)) (I m) (I (ms.length : Nat))).run Try.prog w = .ok () w' ∧ OwnIdx w' b (ms ++ [m]) ∧ (∀ z, z ≠ b → w'.heap[z]? = w.heap[z]?) ∧ w'.heap.size = w.heap.size ∧ w'.os = w.os ∧ w'.tape = w.tape ∧ w'.output = w.output ∧ w'.drawn = w.drawn := by
  obtain ⟨⟨es, clock, hb, he⟩, hwf, hnd⟩ := h
  obtain ⟨l, hl⟩ := keyOf_i hm
  have hread : ∀ e ∈ es.toList, ∃ l, keyOf Try.prog 3 e.key = some l := fun e hmm => by
    obtain ⟨j, hj, he2⟩ := List.getElem_of_mem hmm
    obtain ⟨q, h1, h2, -⟩ := entry_at he (j := j) (e := e) (by rw [List.getElem?_eq_getElem hj, he2])
    rw [h2]
    exact keyOf_i (hwf q (List.mem_of_getElem? h1))
  rcases intK.find w hl es.toList hread with ⟨h1, h2⟩ | ⟨j, e, h1, h2, h3⟩
  · refine ⟨{ w with heap := w.heap.setIfInBounds b (.map (es.push { key := I m, val := I (ms.length : Nat), born := clock }) (clock + 1)) }, ?_, ⟨⟨es.push { key := I m, val := I (ms.length : Nat), born := clock }, clock + 1, ?_, ?_⟩, ?_, ?_⟩, fun z hz => ?_, by simp, rfl, rfl, rfl, rfl⟩
    · simp [Instr.mapUpdate, run_underlying Try.underlying65, MapKept.run_getObj_map hb, intK.check w _ hl, h1, MapKept.run_setObj_map _ hb, Result.andThen]
    · have := (Array.getElem?_eq_some_iff.1 hb).1
      simp [Array.getElem?_setIfInBounds, this]
    · rw [Array.toList_push, List.map_append, he, List.zipIdx_append, List.map_append]
      simp
    · intro q hq
      rcases List.mem_append.1 hq with hq | hq
      · exact hwf q hq
      · simp at hq; subst hq; exact hm
    · rw [List.nodup_append]
      refine ⟨hnd, by simp, fun a ha c hc => ?_⟩
      simp at hc
      subst hc
      intro e
      subst e
      obtain ⟨e, hmm, hk⟩ := entry_mem he ha
      exact h2 e hmm hk
    · simp [Array.getElem?_setIfInBounds, show ¬ b = z by omega]
  · exfalso
    obtain ⟨q, g1, g2, g3⟩ := entry_at he h2
    rw [h3] at g2
    have := I_inj g2
    subst this
    have hf := findI_nodup hnd g1
    omega
end Go.Proofs.Ytenoigmkhlnfoaa
namespace Go.Proofs.Ytenoigmkhlnfoaa
set_option linter.unusedSimpArgs false
set_option linter.unusedVariables false
open Go Go.RowKit
set_option maxRecDepth 20000
theorem eqE7_bill (a b : ABill) : eqE7 a.id a.tender a.debt a.fee a.price a.change a.units b.id b.tender b.debt b.fee b.price b.change b.units = decide (a = b) := by
  obtain ⟨a1, a2, a3, a4, a5, a6, a7⟩ := a
  obtain ⟨b1, b2, b3, b4, b5, b6, b7⟩ := b
  unfold eqE7
  simp only [ABill.mk.injEq]
theorem sells_eq (t : PTerms) (c : PCust) (v : AEvent) : sellsE t c v = if ansE t c v = 0 then (if eqE7 (ansB t c v).id (ansB t c v).tender (ansB t c v).debt (ansB t c v).fee (ansB t c v).price (ansB t c v).change (ansB t c v).units v.bill.id v.bill.tender v.bill.debt v.bill.fee v.bill.price v.bill.change v.bill.units then 0 else 8) else ansE t c v := by
  rw [eqE7_bill]
  unfold sellsE
  simp only [decide_eq_true_eq]
abbrev AEvent.v (v : AEvent) : Value := evV v.kind v.meter v.month v.bill.id v.bill.tender v.bill.debt v.bill.fee v.bill.price v.bill.change v.bill.units v.tag v.debt.owed v.debt.bp
theorem rekey_wrap {x : AAcc} {xs : List ADebt} (h : rekeyE x xs = 0) : IntKind.i64.wrap (x.rev + 1) = x.rev + 1 := by
  unfold rekeyE at h
  cases hm : accMay x xs
  · rw [hm] at h; simp at h
  · obtain ⟨-, -, b3, b4, -⟩ := accMay_bd hm
    exact wrap_small _ (by omega) (by omega)
theorem sells_zero {t : PTerms} {c : PCust} {v : AEvent} (h : sellsE t c v = 0) : ansE t c v = 0 := by
  unfold sellsE at h
  split at h
  · assumption
  · exact h
end Go.Proofs.Ytenoigmkhlnfoaa
namespace Go.Proofs.Ytenoigmkhlnfoaa
set_option linter.unusedSimpArgs false
set_option linter.unusedVariables false
open Go.RowKit
set_option maxRecDepth 20000
set_option maxHeartbeats 1000000 in
theorem neqBill_run (x y : ABill) (w : World) : (binOp .neq 70 (.agg #[I x.id, I x.tender, I x.debt, I x.fee, I x.price, I x.change, I x.units]) (.agg #[I y.id, I y.tender, I y.debt, I y.fee, I y.price, I y.change, I y.units])).run Try.prog w = .ok (.bool (!decide (x = y))) w := by
  have hpBill : Try.prog.stoodInHeld 70 = false := by kernel_rfl
  have htBill : Try.prog.underlying 70 = some (.struct (Try.prog.fieldsOf 70)) := by kernel_rfl
  rw [run_neq_struct, run_equalIn_struct w 9999 70 _ _ htBill hpBill]
  simp [go_sem]
  obtain ⟨x0, x1, x2, x3, x4, x5, x6⟩ := x
  obtain ⟨y0, y1, y2, y3, y4, y5, y6⟩ := y
  clear hpBill htBill
  simp only [ABill.mk.injEq]
  (repeat' split) <;> simp_all
set_option maxHeartbeats 1000000 in
theorem eqlBill_run (x y : ABill) (w : World) : (binOp .eql 70 (.agg #[I x.id, I x.tender, I x.debt, I x.fee, I x.price, I x.change, I x.units]) (.agg #[I y.id, I y.tender, I y.debt, I y.fee, I y.price, I y.change, I y.units])).run Try.prog w = .ok (.bool (decide (x = y))) w := by
  have hpBill : Try.prog.stoodInHeld 70 = false := by kernel_rfl
  have htBill : Try.prog.underlying 70 = some (.struct (Try.prog.fieldsOf 70)) := by kernel_rfl
  rw [run_eql_struct, run_equalIn_struct w 9999 70 _ _ htBill hpBill]
  simp [go_sem]
  obtain ⟨x0, x1, x2, x3, x4, x5, x6⟩ := x
  obtain ⟨y0, y1, y2, y3, y4, y5, y6⟩ := y
  clear hpBill htBill
  simp only [ABill.mk.injEq]
  (repeat' split) <;> simp_all
end Go.Proofs.Ytenoigmkhlnfoaa
namespace Go.Proofs.Ytenoigmkhlnfoaa
set_option linter.unusedSimpArgs false
set_option linter.unusedVariables false
open Go.RowKit
set_option maxRecDepth 20000

theorem info_solds : (Try.prog.info? 122).map (fun i => (i.zero, i.size, i.bytes)) = some (some (.agg #[.int .i64 0, .int .i64 0, .int .i64 0, .int .i64 0, .int .i64 0]), 5, 40) := by kernel_rfl

end Go.Proofs.Ytenoigmkhlnfoaa
