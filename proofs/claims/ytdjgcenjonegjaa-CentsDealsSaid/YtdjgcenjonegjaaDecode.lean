/- what an argument's cells say, type by type (made by wip/bin/gen_api.py) -/
import Derived.Test.YtdjgcenjonegjaaOpen
namespace Go.Proofs.Ytdjgcenjonegjaa
open Go.ChangeShapes Go.WideShapes Go.ChangeAt Go.RowKit
set_option maxRecDepth 20000

theorem wf_I64 {n : Int} (h : (Lit.int .i64 n).wf = true) : I64 n := by simp [Lit.wf, IntKind.min, IntKind.max, IntKind.signed, IntKind.bits] at h; exact h
theorem wf_W32 {n : Int} (h : (Lit.int .u32 n).wf = true) : W32 n := by simp [Lit.wf, IntKind.min, IntKind.max, IntKind.signed, IntKind.bits] at h; exact h
theorem wf_W64 {n : Int} (h : (Lit.int .u64 n).wf = true) : W64 n := by simp [Lit.wf, IntKind.min, IntKind.max, IntKind.signed, IntKind.bits] at h; exact h
theorem plain_i64 {w : World} {v : Value} (h : Plain w (.int .i64) v) : ∃ n, v = I n ∧ I64 n := by simp only [Plain] at h; obtain ⟨n, rfl, h⟩ := h; exact ⟨n, rfl, wf_I64 h⟩
theorem plain_u32 {w : World} {v : Value} (h : Plain w (.int .u32) v) : ∃ n, v = U32 n ∧ W32 n := by simp only [Plain] at h; obtain ⟨n, rfl, h⟩ := h; exact ⟨n, rfl, wf_W32 h⟩
theorem plain_u64 {w : World} {v : Value} (h : Plain w (.int .u64) v) : ∃ n, v = U64 n ∧ W64 n := by simp only [Plain] at h; obtain ⟨n, rfl, h⟩ := h; exact ⟨n, rfl, wf_W64 h⟩
theorem plain_str {w : World} {v : Value} (h : Plain w .str v) : ∃ s, v = .string s ∧ Str s := by simp only [Plain] at h; obtain ⟨s, rfl, h⟩ := h; exact ⟨s, rfl, h⟩
theorem plain_bool {w : World} {v : Value} (h : Plain w .bool v) : ∃ b, v = .bool b ∧ True := by simp only [Plain] at h; obtain ⟨b, rfl⟩ := h; exact ⟨b, rfl, trivial⟩

/-- a slice whose elements decode -/
theorem plain_slice {α : Type} [Inhabited α] (f : α → List Value) (sz : Nat) (wf : α → Prop) (ks : List Sh) (hk : ks.length = sz) (hf : ∀ x, (f x).length = sz) {w : World} {by' : Nat} {v : Value}
    (hdec : ∀ cs, Plains w ks cs → ∃ x, cs = f x ∧ wf x) (h : Plain w (.slice by' ks) v) :
    ∃ xs : List α, Sl w v sz xs.length (xs.flatMap f) ∧ (∀ x ∈ xs, wf x) ∧ xs.length * by' ≤ 140737488351232 := by
  subst hk
  simp only [Plain] at h
  obtain ⟨n, cs, hS, hn, hel⟩ := h
  have key : ∀ (n : Nat) (cs : List Value), cs.length = n * ks.length → (∀ i, i < n → Plains w ks ((cs.drop (i * ks.length)).take ks.length)) → ∃ xs : List α, xs.length = n ∧ cs = xs.flatMap f ∧ ∀ x ∈ xs, wf x := by
    intro n
    induction n with
    | zero => intro cs hl _; exact ⟨[], rfl, by simpa using hl, by simp⟩
    | succ n ih =>
      intro cs hl h
      have h0 := h 0 (by omega)
      rw [Nat.zero_mul, List.drop_zero] at h0
      obtain ⟨x, hx, hw⟩ := hdec _ h0
      obtain ⟨xs, hxl, hxs, hxw⟩ := ih (cs.drop ks.length) (by rw [List.length_drop, hl, Nat.succ_mul]; omega) (fun i hi => by
        have := h (i + 1) (by omega)
        rw [List.drop_drop, show ks.length + i * ks.length = (i + 1) * ks.length by rw [Nat.succ_mul]; omega]
        exact this)
      refine ⟨x :: xs, by simp [hxl], ?_, ?_⟩
      · rw [List.flatMap_cons, ← hx, ← hxs, List.take_append_drop]
      · intro y hy
        rcases List.mem_cons.1 hy with rfl | hy
        · exact hw
        · exact hxw y hy
  have hl : cs.length = n * ks.length := by obtain ⟨_, _, _, _, h, _⟩ := hS; exact h
  obtain ⟨xs, rfl, rfl, hw⟩ := key n cs hl hel
  exact ⟨xs, hS, hw, hn⟩

theorem plain_ints {w : World} {by' : Nat} {v : Value} (h : Plain w (.slice by' [.int .i64]) v) : ∃ xs : List Int, Sl w v 1 xs.length (xs.map I) ∧ (∀ x ∈ xs, I64 x) ∧ xs.length * by' ≤ 140737488351232 := by
  obtain ⟨xs, h1, h2, h3⟩ := plain_slice (fun x => [I x]) 1 I64 [.int .i64] rfl (fun _ => rfl) (fun cs h => by simp only [Plains] at h; obtain ⟨v, r, rfl, h0, rfl⟩ := h; obtain ⟨n, rfl, hn⟩ := plain_i64 h0; exact ⟨n, rfl, hn⟩) h
  rw [show xs.flatMap (fun x => [I x]) = xs.map I by rw [List.map_eq_flatMap]] at h1
  exact ⟨xs, h1, h2, h3⟩
theorem plain_words {w : World} {by' : Nat} {v : Value} (h : Plain w (.slice by' [.int .u32]) v) : ∃ xs : List Int, Sl w v 1 xs.length (xs.map U32) ∧ (∀ x ∈ xs, W32 x) ∧ xs.length * by' ≤ 140737488351232 := by
  obtain ⟨xs, h1, h2, h3⟩ := plain_slice (fun x => [U32 x]) 1 W32 [.int .u32] rfl (fun _ => rfl) (fun cs h => by simp only [Plains] at h; obtain ⟨v, r, rfl, h0, rfl⟩ := h; obtain ⟨n, rfl, hn⟩ := plain_u32 h0; exact ⟨n, rfl, hn⟩) h
  rw [show xs.flatMap (fun x => [U32 x]) = xs.map U32 by rw [List.map_eq_flatMap]] at h1
  exact ⟨xs, h1, h2, h3⟩

theorem decodeWrite {w : World} (cs : List Value) (h : Plains w [.int .i64, .int .u32] cs) : ∃ x : AWrite, cs = x.cells ∧ x.wf := by
  simp only [Plains] at h
  obtain ⟨v0, r0, rfl, h0, v1, r1, rfl, h1, rfl⟩ := h
  obtain ⟨n0, rfl, w0⟩ := plain_i64 h0
  obtain ⟨n1, rfl, w1⟩ := plain_u32 h1
  exact ⟨⟨n0, n1⟩, rfl, ⟨w0, w1⟩⟩
theorem plainWrites {w : World} {by' : Nat} {v : Value} (h : Plain w (.slice by' [.int .i64, .int .u32]) v) : ∃ xs : List AWrite, Sl w v 2 xs.length (xs.flatMap AWrite.cells) ∧ (∀ x ∈ xs, x.wf) ∧ xs.length * by' ≤ 140737488351232 :=
  plain_slice AWrite.cells 2 AWrite.wf _ rfl AWrite.cells_len decodeWrite h

theorem decodeStep {w : World} (cs : List Value) (h : Plains w [.int .i64, .int .i64] cs) : ∃ x : AStep, cs = x.cells ∧ x.wf := by
  simp only [Plains] at h
  obtain ⟨v0, r0, rfl, h0, v1, r1, rfl, h1, rfl⟩ := h
  obtain ⟨n0, rfl, w0⟩ := plain_i64 h0
  obtain ⟨n1, rfl, w1⟩ := plain_i64 h1
  exact ⟨⟨n0, n1⟩, rfl, ⟨w0, w1⟩⟩
theorem plainSteps {w : World} {by' : Nat} {v : Value} (h : Plain w (.slice by' [.int .i64, .int .i64]) v) : ∃ xs : List AStep, Sl w v 2 xs.length (xs.flatMap AStep.cells) ∧ (∀ x ∈ xs, x.wf) ∧ xs.length * by' ≤ 140737488351232 :=
  plain_slice AStep.cells 2 AStep.wf _ rfl AStep.cells_len decodeStep h

theorem decodeLine {w : World} (cs : List Value) (h : Plains w [.int .i64, .int .i64, .int .i64] cs) : ∃ x : ALine, cs = x.cells ∧ x.wf := by
  simp only [Plains] at h
  obtain ⟨v0, r0, rfl, h0, v1, r1, rfl, h1, v2, r2, rfl, h2, rfl⟩ := h
  obtain ⟨n0, rfl, w0⟩ := plain_i64 h0
  obtain ⟨n1, rfl, w1⟩ := plain_i64 h1
  obtain ⟨n2, rfl, w2⟩ := plain_i64 h2
  exact ⟨⟨n0, n1, n2⟩, rfl, ⟨w0, w1, w2⟩⟩
theorem plainLines {w : World} {by' : Nat} {v : Value} (h : Plain w (.slice by' [.int .i64, .int .i64, .int .i64]) v) : ∃ xs : List ALine, Sl w v 3 xs.length (xs.flatMap ALine.cells) ∧ (∀ x ∈ xs, x.wf) ∧ xs.length * by' ≤ 140737488351232 :=
  plain_slice ALine.cells 3 ALine.wf _ rfl ALine.cells_len decodeLine h

theorem decodeDebt {w : World} (cs : List Value) (h : Plains w [.int .i64, .int .i64] cs) : ∃ x : ADebt, cs = x.cells ∧ x.wf := by
  simp only [Plains] at h
  obtain ⟨v0, r0, rfl, h0, v1, r1, rfl, h1, rfl⟩ := h
  obtain ⟨n0, rfl, w0⟩ := plain_i64 h0
  obtain ⟨n1, rfl, w1⟩ := plain_i64 h1
  exact ⟨⟨n0, n1⟩, rfl, ⟨w0, w1⟩⟩
theorem plainDebts {w : World} {by' : Nat} {v : Value} (h : Plain w (.slice by' [.int .i64, .int .i64]) v) : ∃ xs : List ADebt, Sl w v 2 xs.length (xs.flatMap ADebt.cells) ∧ (∀ x ∈ xs, x.wf) ∧ xs.length * by' ≤ 140737488351232 :=
  plain_slice ADebt.cells 2 ADebt.wf _ rfl ADebt.cells_len decodeDebt h

theorem decodePair {w : World} (cs : List Value) (h : Plains w [.int .i64, .int .i64, .int .i64, .int .i64] cs) : ∃ x : APair, cs = x.cells ∧ x.wf := by
  simp only [Plains] at h
  obtain ⟨v0, r0, rfl, h0, v1, r1, rfl, h1, v2, r2, rfl, h2, v3, r3, rfl, h3, rfl⟩ := h
  obtain ⟨n0, rfl, w0⟩ := plain_i64 h0
  obtain ⟨n1, rfl, w1⟩ := plain_i64 h1
  obtain ⟨n2, rfl, w2⟩ := plain_i64 h2
  obtain ⟨n3, rfl, w3⟩ := plain_i64 h3
  exact ⟨⟨n0, n1, n2, n3⟩, rfl, ⟨w0, w1, w2, w3⟩⟩
theorem plainPairs {w : World} {by' : Nat} {v : Value} (h : Plain w (.slice by' [.int .i64, .int .i64, .int .i64, .int .i64]) v) : ∃ xs : List APair, Sl w v 4 xs.length (xs.flatMap APair.cells) ∧ (∀ x ∈ xs, x.wf) ∧ xs.length * by' ≤ 140737488351232 :=
  plain_slice APair.cells 4 APair.wf _ rfl APair.cells_len decodePair h

theorem decodeEntry {w : World} (cs : List Value) (h : Plains w [.str, .int .i64] cs) : ∃ x : AEntry, cs = x.cells ∧ x.wf := by
  simp only [Plains] at h
  obtain ⟨v0, r0, rfl, h0, v1, r1, rfl, h1, rfl⟩ := h
  obtain ⟨n0, rfl, w0⟩ := plain_str h0
  obtain ⟨n1, rfl, w1⟩ := plain_i64 h1
  exact ⟨⟨n0, n1⟩, rfl, ⟨w0, w1⟩⟩
theorem plainEntrys {w : World} {by' : Nat} {v : Value} (h : Plain w (.slice by' [.str, .int .i64]) v) : ∃ xs : List AEntry, Sl w v 2 xs.length (xs.flatMap AEntry.cells) ∧ (∀ x ∈ xs, x.wf) ∧ xs.length * by' ≤ 140737488351232 :=
  plain_slice AEntry.cells 2 AEntry.wf _ rfl AEntry.cells_len decodeEntry h

theorem decodeSold {w : World} (cs : List Value) (h : Plains w [.int .i64, .int .i64, .int .i64, .int .i64, .int .i64] cs) : ∃ x : ASold, cs = x.cells ∧ x.wf := by
  simp only [Plains] at h
  obtain ⟨v0, r0, rfl, h0, v1, r1, rfl, h1, v2, r2, rfl, h2, v3, r3, rfl, h3, v4, r4, rfl, h4, rfl⟩ := h
  obtain ⟨n0, rfl, w0⟩ := plain_i64 h0
  obtain ⟨n1, rfl, w1⟩ := plain_i64 h1
  obtain ⟨n2, rfl, w2⟩ := plain_i64 h2
  obtain ⟨n3, rfl, w3⟩ := plain_i64 h3
  obtain ⟨n4, rfl, w4⟩ := plain_i64 h4
  exact ⟨⟨n0, n1, n2, n3, n4⟩, rfl, ⟨w0, w1, w2, w3, w4⟩⟩
theorem plainSolds {w : World} {by' : Nat} {v : Value} (h : Plain w (.slice by' [.int .i64, .int .i64, .int .i64, .int .i64, .int .i64]) v) : ∃ xs : List ASold, Sl w v 5 xs.length (xs.flatMap ASold.cells) ∧ (∀ x ∈ xs, x.wf) ∧ xs.length * by' ≤ 140737488351232 :=
  plain_slice ASold.cells 5 ASold.wf _ rfl ASold.cells_len decodeSold h

theorem decodeBill {w : World} (cs : List Value) (h : Plains w [.int .i64, .int .i64, .int .i64, .int .i64, .int .i64, .int .i64, .int .i64] cs) : ∃ x : ABill, cs = x.cells ∧ x.wf := by
  simp only [Plains] at h
  obtain ⟨v0, r0, rfl, h0, v1, r1, rfl, h1, v2, r2, rfl, h2, v3, r3, rfl, h3, v4, r4, rfl, h4, v5, r5, rfl, h5, v6, r6, rfl, h6, rfl⟩ := h
  obtain ⟨n0, rfl, w0⟩ := plain_i64 h0
  obtain ⟨n1, rfl, w1⟩ := plain_i64 h1
  obtain ⟨n2, rfl, w2⟩ := plain_i64 h2
  obtain ⟨n3, rfl, w3⟩ := plain_i64 h3
  obtain ⟨n4, rfl, w4⟩ := plain_i64 h4
  obtain ⟨n5, rfl, w5⟩ := plain_i64 h5
  obtain ⟨n6, rfl, w6⟩ := plain_i64 h6
  exact ⟨⟨n0, n1, n2, n3, n4, n5, n6⟩, rfl, ⟨w0, w1, w2, w3, w4, w5, w6⟩⟩
theorem plainBills {w : World} {by' : Nat} {v : Value} (h : Plain w (.slice by' [.int .i64, .int .i64, .int .i64, .int .i64, .int .i64, .int .i64, .int .i64]) v) : ∃ xs : List ABill, Sl w v 7 xs.length (xs.flatMap ABill.cells) ∧ (∀ x ∈ xs, x.wf) ∧ xs.length * by' ≤ 140737488351232 :=
  plain_slice ABill.cells 7 ABill.wf _ rfl ABill.cells_len decodeBill h

theorem decodeEvent {w : World} (cs : List Value) (h : Plains w [.int .i64, .int .i64, .int .i64, .int .i64, .int .i64, .int .i64, .int .i64, .int .i64, .int .i64, .int .i64, .int .i64, .int .i64, .int .i64] cs) : ∃ x : AEvent, cs = x.cells ∧ x.wf := by
  simp only [Plains] at h
  obtain ⟨v0, r0, rfl, h0, v1, r1, rfl, h1, v2, r2, rfl, h2, v3, r3, rfl, h3, v4, r4, rfl, h4, v5, r5, rfl, h5, v6, r6, rfl, h6, v7, r7, rfl, h7, v8, r8, rfl, h8, v9, r9, rfl, h9, v10, r10, rfl, h10, v11, r11, rfl, h11, v12, r12, rfl, h12, rfl⟩ := h
  obtain ⟨n0, rfl, w0⟩ := plain_i64 h0
  obtain ⟨n1, rfl, w1⟩ := plain_i64 h1
  obtain ⟨n2, rfl, w2⟩ := plain_i64 h2
  obtain ⟨n3, rfl, w3⟩ := plain_i64 h3
  obtain ⟨n4, rfl, w4⟩ := plain_i64 h4
  obtain ⟨n5, rfl, w5⟩ := plain_i64 h5
  obtain ⟨n6, rfl, w6⟩ := plain_i64 h6
  obtain ⟨n7, rfl, w7⟩ := plain_i64 h7
  obtain ⟨n8, rfl, w8⟩ := plain_i64 h8
  obtain ⟨n9, rfl, w9⟩ := plain_i64 h9
  obtain ⟨n10, rfl, w10⟩ := plain_i64 h10
  obtain ⟨n11, rfl, w11⟩ := plain_i64 h11
  obtain ⟨n12, rfl, w12⟩ := plain_i64 h12
  exact ⟨⟨n0, n1, n2, ⟨n3, n4, n5, n6, n7, n8, n9⟩, n10, ⟨n11, n12⟩⟩, rfl, ⟨w0, w1, w2, w3, w4, w5, w6, w7, w8, w9, w10, w11, w12⟩⟩
theorem plainEvents {w : World} {by' : Nat} {v : Value} (h : Plain w (.slice by' [.int .i64, .int .i64, .int .i64, .int .i64, .int .i64, .int .i64, .int .i64, .int .i64, .int .i64, .int .i64, .int .i64, .int .i64, .int .i64]) v) : ∃ xs : List AEvent, Sl w v 13 xs.length (xs.flatMap AEvent.cells) ∧ (∀ x ∈ xs, x.wf) ∧ xs.length * by' ≤ 140737488351232 :=
  plain_slice AEvent.cells 13 AEvent.wf _ rfl AEvent.cells_len decodeEvent h

theorem decodeAct {w : World} (cs : List Value) (h : Plains w [.int .i64, .int .i64, .int .i64, .int .i64, .int .i64, .str, .int .i64] cs) : ∃ x : AAct, cs = x.cells ∧ x.wf := by
  simp only [Plains] at h
  obtain ⟨v0, r0, rfl, h0, v1, r1, rfl, h1, v2, r2, rfl, h2, v3, r3, rfl, h3, v4, r4, rfl, h4, v5, r5, rfl, h5, v6, r6, rfl, h6, rfl⟩ := h
  obtain ⟨n0, rfl, w0⟩ := plain_i64 h0
  obtain ⟨n1, rfl, w1⟩ := plain_i64 h1
  obtain ⟨n2, rfl, w2⟩ := plain_i64 h2
  obtain ⟨n3, rfl, w3⟩ := plain_i64 h3
  obtain ⟨n4, rfl, w4⟩ := plain_i64 h4
  obtain ⟨n5, rfl, w5⟩ := plain_str h5
  obtain ⟨n6, rfl, w6⟩ := plain_i64 h6
  exact ⟨⟨n0, n1, n2, n3, n4, n5, n6⟩, rfl, ⟨w0, w1, w2, w3, w4, w5, w6⟩⟩
theorem plainActs {w : World} {by' : Nat} {v : Value} (h : Plain w (.slice by' [.int .i64, .int .i64, .int .i64, .int .i64, .int .i64, .str, .int .i64]) v) : ∃ xs : List AAct, Sl w v 7 xs.length (xs.flatMap AAct.cells) ∧ (∀ x ∈ xs, x.wf) ∧ xs.length * by' ≤ 140737488351232 :=
  plain_slice AAct.cells 7 AAct.wf _ rfl AAct.cells_len decodeAct h

theorem decodeTold {w : World} (cs : List Value) (h : Plains w [.int .i64, .int .i64, .str, .int .i64, .int .i64, .int .i64, .int .i64, .int .i64, .int .i64, .int .i64, .bool] cs) : ∃ x : ATold, cs = x.cells ∧ x.wf := by
  simp only [Plains] at h
  obtain ⟨v0, r0, rfl, h0, v1, r1, rfl, h1, v2, r2, rfl, h2, v3, r3, rfl, h3, v4, r4, rfl, h4, v5, r5, rfl, h5, v6, r6, rfl, h6, v7, r7, rfl, h7, v8, r8, rfl, h8, v9, r9, rfl, h9, v10, r10, rfl, h10, rfl⟩ := h
  obtain ⟨n0, rfl, w0⟩ := plain_i64 h0
  obtain ⟨n1, rfl, w1⟩ := plain_i64 h1
  obtain ⟨n2, rfl, w2⟩ := plain_str h2
  obtain ⟨n3, rfl, w3⟩ := plain_i64 h3
  obtain ⟨n4, rfl, w4⟩ := plain_i64 h4
  obtain ⟨n5, rfl, w5⟩ := plain_i64 h5
  obtain ⟨n6, rfl, w6⟩ := plain_i64 h6
  obtain ⟨n7, rfl, w7⟩ := plain_i64 h7
  obtain ⟨n8, rfl, w8⟩ := plain_i64 h8
  obtain ⟨n9, rfl, w9⟩ := plain_i64 h9
  obtain ⟨n10, rfl, w10⟩ := plain_bool h10
  exact ⟨⟨n0, n1, n2, ⟨n3, n4, n5, n6, n7, n8, n9⟩, n10⟩, rfl, ⟨w0, w1, w2, w3, w4, w5, w6, w7, w8, w9, w10⟩⟩
theorem plainTolds {w : World} {by' : Nat} {v : Value} (h : Plain w (.slice by' [.int .i64, .int .i64, .str, .int .i64, .int .i64, .int .i64, .int .i64, .int .i64, .int .i64, .int .i64, .bool]) v) : ∃ xs : List ATold, Sl w v 11 xs.length (xs.flatMap ATold.cells) ∧ (∀ x ∈ xs, x.wf) ∧ xs.length * by' ≤ 140737488351232 :=
  plain_slice ATold.cells 11 ATold.wf _ rfl ATold.cells_len decodeTold h

theorem decodeWindow {w : World} (cs : List Value) (h : Plains w [.int .i64, .int .u64] cs) : ∃ x : AWindow, cs = x.cells ∧ x.wf := by
  simp only [Plains] at h
  obtain ⟨v0, r0, rfl, h0, v1, r1, rfl, h1, rfl⟩ := h
  obtain ⟨n0, rfl, w0⟩ := plain_i64 h0
  obtain ⟨n1, rfl, w1⟩ := plain_u64 h1
  exact ⟨⟨n0, n1⟩, rfl, ⟨w0, w1⟩⟩
theorem plainWindows {w : World} {by' : Nat} {v : Value} (h : Plain w (.slice by' [.int .i64, .int .u64]) v) : ∃ xs : List AWindow, Sl w v 2 xs.length (xs.flatMap AWindow.cells) ∧ (∀ x ∈ xs, x.wf) ∧ xs.length * by' ≤ 140737488351232 :=
  plain_slice AWindow.cells 2 AWindow.wf _ rfl AWindow.cells_len decodeWindow h

theorem decodeMeter {w : World} (cs : List Value) (h : Plains w [.int .i64, .int .i64, .int .i64, .int .i64, .int .u64, .int .i64, .int .i64] cs) : ∃ x : AMeter, cs = x.cells ∧ x.wf := by
  simp only [Plains] at h
  obtain ⟨v0, r0, rfl, h0, v1, r1, rfl, h1, v2, r2, rfl, h2, v3, r3, rfl, h3, v4, r4, rfl, h4, v5, r5, rfl, h5, v6, r6, rfl, h6, rfl⟩ := h
  obtain ⟨n0, rfl, w0⟩ := plain_i64 h0
  obtain ⟨n1, rfl, w1⟩ := plain_i64 h1
  obtain ⟨n2, rfl, w2⟩ := plain_i64 h2
  obtain ⟨n3, rfl, w3⟩ := plain_i64 h3
  obtain ⟨n4, rfl, w4⟩ := plain_u64 h4
  obtain ⟨n5, rfl, w5⟩ := plain_i64 h5
  obtain ⟨n6, rfl, w6⟩ := plain_i64 h6
  exact ⟨⟨n0, n1, n2, ⟨n3, n4⟩, n5, n6⟩, rfl, ⟨w0, w1, w2, w3, w4, w5, w6⟩⟩
theorem plainMeters {w : World} {by' : Nat} {v : Value} (h : Plain w (.slice by' [.int .i64, .int .i64, .int .i64, .int .i64, .int .u64, .int .i64, .int .i64]) v) : ∃ xs : List AMeter, Sl w v 7 xs.length (xs.flatMap AMeter.cells) ∧ (∀ x ∈ xs, x.wf) ∧ xs.length * by' ≤ 140737488351232 :=
  plain_slice AMeter.cells 7 AMeter.wf _ rfl AMeter.cells_len decodeMeter h

theorem decodeToken {w : World} (cs : List Value) (h : Plains w [.int .i64, .int .i64, .int .i64, .int .i64] cs) : ∃ x : AToken, cs = x.cells ∧ x.wf := by
  simp only [Plains] at h
  obtain ⟨v0, r0, rfl, h0, v1, r1, rfl, h1, v2, r2, rfl, h2, v3, r3, rfl, h3, rfl⟩ := h
  obtain ⟨n0, rfl, w0⟩ := plain_i64 h0
  obtain ⟨n1, rfl, w1⟩ := plain_i64 h1
  obtain ⟨n2, rfl, w2⟩ := plain_i64 h2
  obtain ⟨n3, rfl, w3⟩ := plain_i64 h3
  exact ⟨⟨n0, n1, n2, n3⟩, rfl, ⟨w0, w1, w2, w3⟩⟩
theorem plainTokens {w : World} {by' : Nat} {v : Value} (h : Plain w (.slice by' [.int .i64, .int .i64, .int .i64, .int .i64]) v) : ∃ xs : List AToken, Sl w v 4 xs.length (xs.flatMap AToken.cells) ∧ (∀ x ∈ xs, x.wf) ∧ xs.length * by' ≤ 140737488351232 :=
  plain_slice AToken.cells 4 AToken.wf _ rfl AToken.cells_len decodeToken h

theorem decodeDate {w : World} (cs : List Value) (h : Plains w [.int .i64, .int .i64, .int .i64] cs) : ∃ x : ADate, cs = x.cells ∧ x.wf := by
  simp only [Plains] at h
  obtain ⟨v0, r0, rfl, h0, v1, r1, rfl, h1, v2, r2, rfl, h2, rfl⟩ := h
  obtain ⟨n0, rfl, w0⟩ := plain_i64 h0
  obtain ⟨n1, rfl, w1⟩ := plain_i64 h1
  obtain ⟨n2, rfl, w2⟩ := plain_i64 h2
  exact ⟨⟨n0, n1, n2⟩, rfl, ⟨w0, w1, w2⟩⟩
theorem plainDates {w : World} {by' : Nat} {v : Value} (h : Plain w (.slice by' [.int .i64, .int .i64, .int .i64]) v) : ∃ xs : List ADate, Sl w v 3 xs.length (xs.flatMap ADate.cells) ∧ (∀ x ∈ xs, x.wf) ∧ xs.length * by' ≤ 140737488351232 :=
  plain_slice ADate.cells 3 ADate.wf _ rfl ADate.cells_len decodeDate h

theorem decodePad {w : World} (cs : List Value) (h : Plains w [.str, .bool] cs) : ∃ x : APad, cs = x.cells ∧ x.wf := by
  simp only [Plains] at h
  obtain ⟨v0, r0, rfl, h0, v1, r1, rfl, h1, rfl⟩ := h
  obtain ⟨n0, rfl, w0⟩ := plain_str h0
  obtain ⟨n1, rfl, w1⟩ := plain_bool h1
  exact ⟨⟨n0, n1⟩, rfl, ⟨w0, w1⟩⟩
theorem plainPads {w : World} {by' : Nat} {v : Value} (h : Plain w (.slice by' [.str, .bool]) v) : ∃ xs : List APad, Sl w v 2 xs.length (xs.flatMap APad.cells) ∧ (∀ x ∈ xs, x.wf) ∧ xs.length * by' ≤ 140737488351232 :=
  plain_slice APad.cells 2 APad.wf _ rfl APad.cells_len decodePad h

theorem decodeReport {w : World} (cs : List Value) (h : Plains w [.int .i64, .int .i64, .int .i64, .int .i64, .int .i64, .int .i64, .int .i64] cs) : ∃ x : AReport, cs = x.cells ∧ x.wf := by
  simp only [Plains] at h
  obtain ⟨v0, r0, rfl, h0, v1, r1, rfl, h1, v2, r2, rfl, h2, v3, r3, rfl, h3, v4, r4, rfl, h4, v5, r5, rfl, h5, v6, r6, rfl, h6, rfl⟩ := h
  obtain ⟨n0, rfl, w0⟩ := plain_i64 h0
  obtain ⟨n1, rfl, w1⟩ := plain_i64 h1
  obtain ⟨n2, rfl, w2⟩ := plain_i64 h2
  obtain ⟨n3, rfl, w3⟩ := plain_i64 h3
  obtain ⟨n4, rfl, w4⟩ := plain_i64 h4
  obtain ⟨n5, rfl, w5⟩ := plain_i64 h5
  obtain ⟨n6, rfl, w6⟩ := plain_i64 h6
  exact ⟨⟨n0, n1, n2, n3, n4, n5, n6⟩, rfl, ⟨w0, w1, w2, w3, w4, w5, w6⟩⟩
theorem plainReports {w : World} {by' : Nat} {v : Value} (h : Plain w (.slice by' [.int .i64, .int .i64, .int .i64, .int .i64, .int .i64, .int .i64, .int .i64]) v) : ∃ xs : List AReport, Sl w v 7 xs.length (xs.flatMap AReport.cells) ∧ (∀ x ∈ xs, x.wf) ∧ xs.length * by' ≤ 140737488351232 :=
  plain_slice AReport.cells 7 AReport.wf _ rfl AReport.cells_len decodeReport h

theorem decodeShown {w : World} (cs : List Value) (h : Plains w [.int .i64, .int .i64, .int .i64] cs) : ∃ x : AShown, cs = x.cells ∧ x.wf := by
  simp only [Plains] at h
  obtain ⟨v0, r0, rfl, h0, v1, r1, rfl, h1, v2, r2, rfl, h2, rfl⟩ := h
  obtain ⟨n0, rfl, w0⟩ := plain_i64 h0
  obtain ⟨n1, rfl, w1⟩ := plain_i64 h1
  obtain ⟨n2, rfl, w2⟩ := plain_i64 h2
  exact ⟨⟨n0, n1, n2⟩, rfl, ⟨w0, w1, w2⟩⟩
theorem plainShowns {w : World} {by' : Nat} {v : Value} (h : Plain w (.slice by' [.int .i64, .int .i64, .int .i64]) v) : ∃ xs : List AShown, Sl w v 3 xs.length (xs.flatMap AShown.cells) ∧ (∀ x ∈ xs, x.wf) ∧ xs.length * by' ≤ 140737488351232 :=
  plain_slice AShown.cells 3 AShown.wf _ rfl AShown.cells_len decodeShown h

theorem decodeReceipt {w : World} (cs : List Value) (h : Plains w [.int .i64, .int .i64, .int .i64, .int .i64, .int .i64, .int .i64, .int .i64, .int .i64, .str] cs) : ∃ x : AReceipt, cs = x.cells ∧ x.wf := by
  simp only [Plains] at h
  obtain ⟨v0, r0, rfl, h0, v1, r1, rfl, h1, v2, r2, rfl, h2, v3, r3, rfl, h3, v4, r4, rfl, h4, v5, r5, rfl, h5, v6, r6, rfl, h6, v7, r7, rfl, h7, v8, r8, rfl, h8, rfl⟩ := h
  obtain ⟨n0, rfl, w0⟩ := plain_i64 h0
  obtain ⟨n1, rfl, w1⟩ := plain_i64 h1
  obtain ⟨n2, rfl, w2⟩ := plain_i64 h2
  obtain ⟨n3, rfl, w3⟩ := plain_i64 h3
  obtain ⟨n4, rfl, w4⟩ := plain_i64 h4
  obtain ⟨n5, rfl, w5⟩ := plain_i64 h5
  obtain ⟨n6, rfl, w6⟩ := plain_i64 h6
  obtain ⟨n7, rfl, w7⟩ := plain_i64 h7
  obtain ⟨n8, rfl, w8⟩ := plain_str h8
  exact ⟨⟨n0, ⟨n1, n2, n3, n4, n5, n6, n7⟩, n8⟩, rfl, ⟨w0, w1, w2, w3, w4, w5, w6, w7, w8⟩⟩
theorem plainReceipts {w : World} {by' : Nat} {v : Value} (h : Plain w (.slice by' [.int .i64, .int .i64, .int .i64, .int .i64, .int .i64, .int .i64, .int .i64, .int .i64, .str]) v) : ∃ xs : List AReceipt, Sl w v 9 xs.length (xs.flatMap AReceipt.cells) ∧ (∀ x ∈ xs, x.wf) ∧ xs.length * by' ≤ 140737488351232 :=
  plain_slice AReceipt.cells 9 AReceipt.wf _ rfl AReceipt.cells_len decodeReceipt h


section
variable {H : Type} {enc : TypeId × Value → H} {P : Program} {W : World} {t : TypeId} {ks : List Sh} {v : Value} {d : DataW H} {p : List MemPlace}
theorem arg_plains (hs : shape P 9 t = some ks) (h : DataW.Trod enc P W 0 (fun _ => true) true t v d p) (hw : (d.weights P t).all (· ≤ reachBytes) = true) : Plains W ks v.cells.toList := by
  obtain ⟨fuel, hf⟩ := h
  exact opens 9 t ks fuel _ _ hs hf hw
theorem arg_weights {ts : List TypeId} {ds : List (DataW H)} {j : Nat} (h : (DataW.weightsEach P ts ds).all (· ≤ reachBytes) = true) (ht : ts[j]? = some t) (hd : ds[j]? = some d) : (d.weights P t).all (· ≤ reachBytes) = true :=
  List.all_eq_true.2 fun n hn => List.all_eq_true.1 h n (DataW.weights_mem_each ht hd n hn)
theorem arg_slice {e : TypeId} {r : Reach} {base b : Nat} (ht : P.underlying t = some (.slice e)) (hval : Value.okWide P W r base t v) (h : Plains W [.slice b ks] v.cells.toList) : Plain W (.slice b ks) v := by
  obtain ⟨a, len, cap, rfl⟩ := okWide_slice ht hval
  simp only [Plains, Value.cells] at h
  obtain ⟨v', r', hv, hp, hr⟩ := h
  simp only [List.cons.injEq] at hv
  obtain ⟨rfl, _⟩ := hv
  exact hp
theorem arg_struct {fs : Array Field} {r : Reach} {base : Nat} (ht : P.underlying t = some (.struct fs)) (hval : Value.okWide P W r base t v) (h : Plains W ks v.cells.toList) : ∃ cs : List Value, v = .agg cs.toArray ∧ Plains W ks cs := by
  unfold Value.okWide at hval
  rw [ht] at hval
  obtain ⟨cs, rfl, _⟩ := hval
  exact ⟨cs.toList, by simp, h⟩
theorem arg_array {n : Nat} {e : TypeId} {r : Reach} {base : Nat} (ht : P.underlying t = some (.array n e)) (hval : Value.okWide P W r base t v) (h : Plains W ks v.cells.toList) : ∃ cs : List Value, v = .agg cs.toArray ∧ Plains W ks cs := by
  unfold Value.okWide at hval
  rw [ht] at hval
  obtain ⟨cs, rfl, _⟩ := hval
  exact ⟨cs.toList, by simp, h⟩
theorem arg_string {r : Reach} {base : Nat} (ht : P.underlying t = some .string) (hval : Value.okWide P W r base t v) (h : DataW.Trod enc P W 0 (fun _ => true) true t v d p) (hp : Plains W [.str] v.cells.toList) : ∃ s, v = .string s ∧ Str s := by
  obtain ⟨s, rfl, _⟩ := Go.ChangeMaps.open_string ht hval h
  simp only [Plains, Value.cells] at hp
  obtain ⟨v', r', hv, hp, hr⟩ := hp
  simp only [List.cons.injEq] at hv
  obtain ⟨rfl, _⟩ := hv
  exact ⟨s, rfl, by obtain ⟨s', h1, h2⟩ := plain_str hp; simp only [Value.string.injEq] at h1; subst h1; exact h2⟩
end
end Go.Proofs.Ytdjgcenjonegjaa
