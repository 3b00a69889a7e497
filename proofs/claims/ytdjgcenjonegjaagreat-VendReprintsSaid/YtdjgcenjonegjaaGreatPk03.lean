/- book.want, within, caught; the closures that recover · book.Encode's and Decode's deferred closures · two structs held against each other, field by field · two events held against each other, field by field · book.check: which events may be -/
import Derived.Test.YtdjgcenjonegjaaGreatPk01
import Derived.Test.YtdjgcenjonegjaaGreatOwn
import Derived.Laws.StructEq
import Derived.ChangeKeysEq
import Derived.Deep.DeepCutAuto
set_option maxRecDepth 20000
set_option maxHeartbeats 8000000
set_option linter.unusedSimpArgs false
set_option linter.unusedVariables false
namespace Go.Proofs.YtdjgcenjonegjaaGreat
section
open Go Go.RowKit

/-- what is thrown -/
abbrev refV (k : Int) : Value := .iface 215 (.agg #[I k])
theorem want_yes (k : Int) (w : World) : Calls Tryz.prog 75 #[.bool true, I k] w (Pure (.tuple #[]) w) := by
  go_enter Tryz.func75, Tryz.ntmps75; go_wp2; exact bodyPost_ret (results_none rfl _ _ _) rfl ⟨rfl, rfl⟩
theorem want_no (k : Int) (w : World) : Calls Tryz.prog 75 #[.bool false, I k] w (fun e w' => e = .panicked [{ v := refV k, recovered := false }] ∧ w' = w) := by
  go_enter Tryz.func75, Tryz.ntmps75; go_wp2; exact ⟨rfl, rfl, rfl⟩
theorem bwithin_any (n a b : Int) (w : World) : Calls Tryz.prog 121 #[I n, I a, I b] w (Pure (.bool (inB n a b)) w) := by
  go_enter Tryz.func121, Tryz.ntmps121; go_wp2
  all_goals
    go_ret; refine Pure.intro ?_; simp only [inB]; simp [*]
    try omega
theorem as_err (k : Int) (w : World) : (Instr.typeAssert (refV k) 20 187 false).run Tryz.prog w = .ok (refV k) w := by kernel_rfl
theorem as_ref (k : Int) (w : World) : (Instr.typeAssert (refV k) 187 215 true).run Tryz.prog w = .ok (.tuple #[.agg #[I k], .bool true]) w := by kernel_rfl
theorem caught_nil (k : Int) (w : World) : Calls Tryz.prog 74 #[.nilIface, I k] w (Grew (I k) w) := by
  go_enter Tryz.func74, Tryz.ntmps74; go_wp2; go_ret; exact Grew.intro rfl below_auto
theorem caught_ref (k e : Int) (w : World) : Calls Tryz.prog 74 #[refV k, I e] w (Grew (I k) w) := by
  have h1 := as_err k; have h2 := as_ref k; go_enter Tryz.func74, Tryz.ntmps74; go_wp2; go_ret; exact Grew.intro rfl below_auto
end
section
open Go Go.RowKit

/-- the closure's frame below, the box of e, what e holds behind it -/
def RecP (g : Nat) (k : Int) (u : FrameMode) (w : World) (e : Ending) (u' : FrameMode) (w' : World) : Prop :=
  e = .returned (.tuple #[]) ∧ u' = u ∧ ∃ w1, Below w.heap.size w w1 ∧ w' = w1.setCell ⟨g, 0, none⟩ (I k)
theorem enc_pan (g : Nat) (x k : Int) (older : List PanicEntry) (w : World) (hg : g < w.heap.size) (hc : w.cell? ⟨g, 0, none⟩ = some (I x)) (hz : w.frozen? ⟨g, 0, none⟩ = false) :
    CallsD Tryz.prog 147 #[.pointer (some ⟨g, 0, none⟩)] (.panicking ({ v := refV k, recovered := false } :: older)) w (RecP g k (.panicking ({ v := refV k, recovered := true } :: older)) w) := by
  refine callsD_of_wpS Tryz.func147 rfl fun c₀ cs hu => ?_
  have C := Lib.hid (fun W => caught_ref k x W); refine wpS_draw [[0, 1, 2, 3], [1, 0, 2, 3]] (by kernel_rfl) (by kernel_rfl) fun l hl => ?_
  simp only [List.mem_cons, List.not_mem_nil, or_false] at hl; rcases hl with rfl | rfl
  all_goals
    simp [wpOpsS, go_sem, recoverD, hu, Tryz.ntmps147, hc, hz]; refine (C.out _).mono ?_; rintro e w1 ⟨rfl, k1⟩; have kk : Below w.heap.size w w1 := (drewN_below (Below.refl _ w) 1).trans k1; have c1 := (kk.cell (p := ⟨g, 0, none⟩) hg).trans hc; have f1 := (kk.frozen (p := ⟨g, 0, none⟩) hg).trans hz; simp [go_sem, c1, f1, bodyPostS, results, Tryz.results147, Exit.thenS]
  all_goals exact ⟨rfl, rfl, _, kk, rfl⟩
/-- an event is struck out -/
def zero13 (W : World) (gv : Nat) : World := (((((((((((((W.setCell ⟨gv, 0, none⟩ (I 0)).setCell ⟨gv, 1, none⟩ (I 0)).setCell ⟨gv, 2, none⟩ (I 0)).setCell ⟨gv, 3, none⟩ (I 0)).setCell ⟨gv, 4, none⟩ (I 0)).setCell ⟨gv, 5, none⟩ (I 0)).setCell ⟨gv, 6, none⟩ (I 0)).setCell ⟨gv, 7, none⟩ (I 0)).setCell ⟨gv, 8, none⟩ (I 0)).setCell ⟨gv, 9, none⟩ (I 0)).setCell ⟨gv, 10, none⟩ (I 0)).setCell ⟨gv, 11, none⟩ (I 0)).setCell ⟨gv, 12, none⟩ (I 0))
def DecP (g gv : Nat) (k : Int) (u : FrameMode) (w : World) (e : Ending) (u' : FrameMode) (w' : World) : Prop :=
  e = .returned (.tuple #[]) ∧ u' = u ∧ ∃ w1, Below w.heap.size w w1 ∧ w' = if k = 0 then w1.setCell ⟨g, 0, none⟩ (I k) else zero13 (w1.setCell ⟨g, 0, none⟩ (I k)) gv
theorem dec_pan (g gv : Nat) (x k : Int) (x0 x1 x2 x3 x4 x5 x6 x7 x8 x9 x10 x11 x12 : Int) (older : List PanicEntry) (w : World) (hk : k ≠ 0) (hgv : gv ≠ g) (hv : Own w gv [I x0, I x1, I x2, I x3, I x4, I x5, I x6, I x7, I x8, I x9, I x10, I x11, I x12]) (hg : g < w.heap.size) (hc : w.cell? ⟨g, 0, none⟩ = some (I x)) (hz : w.frozen? ⟨g, 0, none⟩ = false) :
    CallsD Tryz.prog 73 #[.pointer (some ⟨g, 0, none⟩), .pointer (some ⟨gv, 0, none⟩)] (.panicking ({ v := refV k, recovered := false } :: older)) w (DecP g gv k (.panicking ({ v := refV k, recovered := true } :: older)) w) := by
  refine callsD_of_wpS Tryz.func73 rfl fun c₀ cs hu => ?_
  have C := Lib.hid (fun W => caught_ref k x W); apply wpS_seq; refine wpS_draw [[0, 1, 2, 3], [1, 0, 2, 3]] (by kernel_rfl) (by kernel_rfl) fun l hl => ?_
  simp only [List.mem_cons, List.not_mem_nil, or_false] at hl; rcases hl with rfl | rfl
  all_goals
    simp [wpOpsS, go_sem, recoverD, hu, Tryz.ntmps73, hc, hz]; refine (C.out _).mono ?_; rintro e w1 ⟨rfl, k1⟩; have kk : Below w.heap.size w w1 := (drewN_below (Below.refl _ w) 1).trans k1; have c1 := (kk.cell (p := ⟨g, 0, none⟩) hg).trans hc; have f1 := (kk.frozen (p := ⟨g, 0, none⟩) hg).trans hz; simp [go_sem, c1, f1, bodyPostS, results, Tryz.results73, Exit.thenS]
  all_goals
    refine wpS_of_wp ?_; have vO := hv.below kk; have vA := vO.s13; clear vO; have r1 := set_same; have r2 := set_off; have r3 := set_blk; have n1 : ¬ g = gv := by omega
    have n2 : ¬ gv = g := by omega
    simp only [List.size_toArray, List.length_cons, List.length_nil, Array.replicate_succ, Array.replicate_zero, List.push_toArray, List.append_toArray, List.nil_append, List.cons_append, List.setIfInBounds_toArray, List.set_cons_zero, List.set_cons_succ]; clear hc hz k1 hv; have hb : (k != 0) = true := by simp [hk]
    go_wp2; exact ⟨rfl, _, rfl, _, results_none rfl _ _ _, rfl, rfl, w1, kk, by rw [if_neg hk]; rfl⟩
theorem dec_idle (g gv : Nat) (x0 x1 x2 x3 x4 x5 x6 x7 x8 x9 x10 x11 x12 : Int) (w : World) (hgv : gv ≠ g) (hv : Own w gv [I x0, I x1, I x2, I x3, I x4, I x5, I x6, I x7, I x8, I x9, I x10, I x11, I x12]) (hg : g < w.heap.size) (hc : w.cell? ⟨g, 0, none⟩ = some (I 0)) (hz : w.frozen? ⟨g, 0, none⟩ = false) :
    CallsD Tryz.prog 73 #[.pointer (some ⟨g, 0, none⟩), .pointer (some ⟨gv, 0, none⟩)] .returning w (DecP g gv 0 .returning w) := by
  refine callsD_of_wpS Tryz.func73 rfl fun c₀ cs hu => ?_
  have C := Lib.hid (fun W => caught_nil 0 W); apply wpS_seq; refine wpS_draw [[0, 1, 2, 3], [1, 0, 2, 3]] (by kernel_rfl) (by kernel_rfl) fun l hl => ?_
  simp only [List.mem_cons, List.not_mem_nil, or_false] at hl; rcases hl with rfl | rfl
  all_goals
    simp [wpOpsS, go_sem, recoverD, hu, Tryz.ntmps73, hc, hz]; refine (C.out _).mono ?_; rintro e w1 ⟨rfl, k1⟩; have kk : Below w.heap.size w w1 := (drewN_below (Below.refl _ w) 1).trans k1; have c1 := (kk.cell (p := ⟨g, 0, none⟩) hg).trans hc; have f1 := (kk.frozen (p := ⟨g, 0, none⟩) hg).trans hz; simp [go_sem, c1, f1, bodyPostS, results, Tryz.results73, Exit.thenS]
  all_goals
    refine wpS_of_wp ?_; have vO := hv.below kk; have vA := vO.s13; clear vO; have r1 := set_same; have r2 := set_off; have r3 := set_blk; have n1 : ¬ g = gv := by omega
    have n2 : ¬ gv = g := by omega
    simp only [List.size_toArray, List.length_cons, List.length_nil, Array.replicate_succ, Array.replicate_zero, List.push_toArray, List.append_toArray, List.nil_append, List.cons_append, List.setIfInBounds_toArray, List.set_cons_zero, List.set_cons_succ]; clear hc hz k1 hv; go_wp2; exact ⟨rfl, .returning, (by cases c₀; simp_all), _, results_none rfl _ _ _, rfl, rfl, w1, kk, by rw [if_pos rfl]⟩
end
section
open Go
section
variable {P : Program} (w : World) {d : Nat} {xs ys : Array Value} {f : Field} {fs : List Field}
theorem eqF_int {k q : IntKind} {a b : Int} (hn : f.name ≠ "_") (hu : P.underlying f.type = some (.int q)) (hx : xs[f.offset]? = some (.int k a)) (hy : ys[f.offset]? = some (.int k b)) :
    (Op.eqFields (d + 1) xs ys (f :: fs)).run P w = if a = b then (Op.eqFields (d + 1) xs ys fs).run P w else .ok false w := by
  have hp : P.plainKey f.type = true := by simp [Program.plainKey, hu]
  simp only [Op.eqFields, hn, ne_eq, not_false_eq_true, if_true, Sem.run_bind, run_part_plain w hp hx, run_part_plain w hp hy, Result.andThen_ok, run_equalIn_int w d _ k q a b hu]
  by_cases h : a = b
  · simp [h]
  · simp [h]
theorem eqF_sub {u v : Value} {r : Bool} (hn : f.name ≠ "_") (hx : (part f.type xs f.offset).run P w = .ok u w) (hy : (part f.type ys f.offset).run P w = .ok v w) (he : (Op.equalIn d f.type u v).run P w = .ok r w) :
    (Op.eqFields d xs ys (f :: fs)).run P w = if r = true then (Op.eqFields d xs ys fs).run P w else .ok false w := by
  simp only [Op.eqFields, hn, ne_eq, not_false_eq_true, if_true, Sem.run_bind, hx, hy, Result.andThen_ok, he]; cases r <;> simp
theorem eqF_nil : (Op.eqFields d xs ys []).run P w = .ok true w := by simp [Op.eqFields]
end
end
section
open Go.RowKit
def eqE7 (x3 x4 x5 x6 x7 x8 x9 y3 y4 y5 y6 y7 y8 y9 : Int) : Bool := decide (x3 = y3 ∧ x4 = y4 ∧ x5 = y5 ∧ x6 = y6 ∧ x7 = y7 ∧ x8 = y8 ∧ x9 = y9)
def eqE (x0 x1 x2 x3 x4 x5 x6 x7 x8 x9 x10 x11 x12 y0 y1 y2 y3 y4 y5 y6 y7 y8 y9 y10 y11 y12 : Int) : Bool :=
  decide (x0 = y0 ∧ x1 = y1 ∧ x2 = y2 ∧ (x3 = y3 ∧ x4 = y4 ∧ x5 = y5 ∧ x6 = y6 ∧ x7 = y7 ∧ x8 = y8 ∧ x9 = y9) ∧ x10 = y10 ∧ x11 = y11 ∧ x12 = y12)
theorem eqlBillIn (x3 x4 x5 x6 x7 x8 x9 y3 y4 y5 y6 y7 y8 y9 : Int) (w : World) : (Op.equalIn 9999 39 (.agg #[I x3, I x4, I x5, I x6, I x7, I x8, I x9]) (.agg #[I y3, I y4, I y5, I y6, I y7, I y8, I y9])).run Tryz.prog w = .ok (eqE7 x3 x4 x5 x6 x7 x8 x9 y3 y4 y5 y6 y7 y8 y9) w := by
  have hp : Tryz.prog.stoodInHeld 39 = false := by kernel_rfl
  have ht : Tryz.prog.underlying 39 = some (.struct (Tryz.prog.fieldsOf 39)) := by kernel_rfl
  rw [run_equalIn_struct w 9998 39 _ _ ht hp]; simp only [Program.fieldsOf, Tryz.underlying39]; rw [eqF_int w (by decide) Tryz.underlying3 rfl rfl, eqF_int w (by decide) Tryz.underlying3 rfl rfl, eqF_int w (by decide) Tryz.underlying3 rfl rfl, eqF_int w (by decide) Tryz.underlying3 rfl rfl, eqF_int w (by decide) Tryz.underlying3 rfl rfl, eqF_int w (by decide) Tryz.underlying3 rfl rfl, eqF_int w (by decide) Tryz.underlying3 rfl rfl, eqF_nil]; unfold eqE7
  (repeat' split) <;> simp_all
theorem eqlDebtIn (x y a b : Int) (w : World) : (Op.equalIn 9999 46 (.agg #[I x, I y]) (.agg #[I a, I b])).run Tryz.prog w = .ok (decide (x = a ∧ y = b)) w := by
  have hp : Tryz.prog.stoodInHeld 46 = false := by kernel_rfl
  have ht : Tryz.prog.underlying 46 = some (.struct (Tryz.prog.fieldsOf 46)) := by kernel_rfl
  rw [run_equalIn_struct w 9998 46 _ _ ht hp]; simp only [Program.fieldsOf, Tryz.underlying46]; rw [eqF_int w (by decide) Tryz.underlying3 rfl rfl, eqF_int w (by decide) Tryz.underlying3 rfl rfl, eqF_nil]
  (repeat' split) <;> simp_all
set_option maxRecDepth 200000 in
theorem eqlEv_run (x0 x1 x2 x3 x4 x5 x6 x7 x8 x9 x10 x11 x12 y0 y1 y2 y3 y4 y5 y6 y7 y8 y9 y10 y11 y12 : Int) (w : World) :
    (binOp .eql 48 (.agg #[I x0, I x1, I x2, I x3, I x4, I x5, I x6, I x7, I x8, I x9, I x10, I x11, I x12]) (.agg #[I y0, I y1, I y2, I y3, I y4, I y5, I y6, I y7, I y8, I y9, I y10, I y11, I y12])).run Tryz.prog w = .ok (.bool (eqE x0 x1 x2 x3 x4 x5 x6 x7 x8 x9 x10 x11 x12 y0 y1 y2 y3 y4 y5 y6 y7 y8 y9 y10 y11 y12)) w := by
  have hp : Tryz.prog.stoodInHeld 48 = false := by kernel_rfl
  have ht : Tryz.prog.underlying 48 = some (.struct (Tryz.prog.fieldsOf 48)) := by kernel_rfl
  rw [run_eql_struct, run_equalIn_struct w 9999 48 _ _ ht hp]; simp only [Program.fieldsOf, Tryz.underlying48]
  rw [eqF_int w (by decide) Tryz.underlying3 rfl rfl, eqF_int w (by decide) Tryz.underlying3 rfl rfl, eqF_int w (by decide) Tryz.underlying3 rfl rfl,
    eqF_sub w (u := .agg #[I x3, I x4, I x5, I x6, I x7, I x8, I x9]) (v := .agg #[I y3, I y4, I y5, I y6, I y7, I y8, I y9]) (r := eqE7 x3 x4 x5 x6 x7 x8 x9 y3 y4 y5 y6 y7 y8 y9) (by decide) (by kernel_rfl) (by kernel_rfl) (eqlBillIn _ _ _ _ _ _ _ _ _ _ _ _ _ _ w),
    eqF_int w (by decide) Tryz.underlying3 rfl rfl,
    eqF_sub w (u := .agg #[I x11, I x12]) (v := .agg #[I y11, I y12]) (r := decide (x11 = y11 ∧ x12 = y12)) (by decide) (by kernel_rfl) (by kernel_rfl) (eqlDebtIn _ _ _ _ w), eqF_nil]
  unfold eqE eqE7
  (repeat' split) <;> simp_all
end
section
open Go Go.RowKit

abbrev evV (x0 x1 x2 x3 x4 x5 x6 x7 x8 x9 x10 x11 x12 : Int) : Value := .agg #[I x0, I x1, I x2, I x3, I x4, I x5, I x6, I x7, I x8, I x9, I x10, I x11, I x12]
/-- kind meter month id tender debt fee price change units tag owed bp -/
def mayReg (mo id te de fe pr ch un ta ow bp : Int) : Bool := decide (mo = 0 ∧ (id = 0 ∧ te = 0 ∧ de = 0 ∧ fe = 0 ∧ pr = 0 ∧ ch = 0 ∧ un = 0) ∧ ta = 0 ∧ ow = 0 ∧ bp = 0)
def maySale (mo id te de fe pr ch un ta ow bp : Int) : Bool := decide ((0 ≤ de ∧ 0 ≤ fe ∧ 0 ≤ pr ∧ 0 ≤ ch) ∧ (1 ≤ te ∧ te ≤ 100000000) ∧ de + fe + pr + ch = te ∧ (1 ≤ un ∧ un ≤ 2097151) ∧ (0 ≤ mo ∧ mo ≤ 2399) ∧ (1 ≤ id ∧ id ≤ 1048575) ∧ (0 ≤ ta ∧ ta ≤ 65535) ∧ ow = 0 ∧ bp = 0)
def mayGrant (mo id te de fe pr ch un ta ow bp : Int) : Bool := decide ((1 ≤ un ∧ un ≤ 2097151) ∧ (0 ≤ mo ∧ mo ≤ 2399) ∧ (1 ≤ id ∧ id ≤ 1048575) ∧ (0 ≤ ta ∧ ta ≤ 65535) ∧ (te = 0 ∧ de = 0 ∧ fe = 0 ∧ pr = 0 ∧ ch = 0) ∧ ow = 0 ∧ bp = 0)
def mayRekey (mo id te de fe pr ch un ta ow bp : Int) : Bool := decide ((1 ≤ id ∧ id ≤ 1048575) ∧ (0 ≤ ta ∧ ta ≤ 65535) ∧ mo = 0 ∧ (te = 0 ∧ de = 0 ∧ fe = 0 ∧ pr = 0 ∧ ch = 0 ∧ un = 0) ∧ ow = 0 ∧ bp = 0)
def mayCharge (mo id te de fe pr ch un ta ow bp : Int) : Bool := decide ((1 ≤ ow ∧ ow ≤ 1000000000) ∧ (0 ≤ bp ∧ bp ≤ 10000) ∧ mo = 0 ∧ (id = 0 ∧ te = 0 ∧ de = 0 ∧ fe = 0 ∧ pr = 0 ∧ ch = 0 ∧ un = 0) ∧ ta = 0)
def evMay (ki me mo id te de fe pr ch un ta ow bp : Int) : Bool :=
  inB me 0 49 && (if ki = 1 then mayReg mo id te de fe pr ch un ta ow bp else if ki = 2 then maySale mo id te de fe pr ch un ta ow bp else if ki = 3 then mayGrant mo id te de fe pr ch un ta ow bp
    else if ki = 4 then mayRekey mo id te de fe pr ch un ta ow bp else if ki = 5 then mayCharge mo id te de fe pr ch un ta ow bp else false)
/-- it returns, or throws ErrState -/
def EvP (b : Bool) (w : World) (e : Ending) (w' : World) : Prop := (if b then e = .returned (.tuple #[]) else e = .panicked [{ v := refV 5, recovered := false }]) ∧ Below w.heap.size w w'
theorem EvP.yes {b : Bool} {w w' : World} (h : b = true) (k : Below w.heap.size w w') : EvP b w (.returned (.tuple #[])) w' := by subst h; exact ⟨rfl, k⟩
theorem EvP.no {b : Bool} {w w' : World} (h : b = false) (k : Below w.heap.size w w') : EvP b w (.panicked [{ v := refV 5, recovered := false }]) w' := by subst h; exact ⟨rfl, k⟩
/-- want, whatever it is told -/
def WantP (b : Bool) (k : Int) (w : World) (e : Ending) (w' : World) : Prop := (b = true ∧ e = .returned (.tuple #[]) ∧ w = w') ∨ (b = false ∧ e = .panicked [{ v := refV k, recovered := false }] ∧ w = w')
theorem want_any (b : Bool) (k : Int) (w : World) : Calls Tryz.prog 75 #[.bool b, I k] w (WantP b k w) := by
  cases b
  · exact (want_no k w).mono fun _ _ ⟨h1, h2⟩ => .inr ⟨rfl, h1, h2.symm⟩
  · exact (want_yes k w).mono fun _ _ ⟨h1, h2⟩ => .inl ⟨rfl, h1, h2⟩
end
end Go.Proofs.YtdjgcenjonegjaaGreat
