/- order.Show: the table of the forms out of what the row lists -/
import Derived.Test.YtfhmcahfjoliiaaDoorOrdForm
import Derived.Lib.LaidU8
import Derived.ChangeArms
namespace Go.Proofs.YtfhmcahfjoliiaaDoor
set_option linter.unusedSimpArgs false
set_option linter.unusedVariables false
open Go Go.RowKit Go.Lib
set_option maxRecDepth 20000

def formD (z : Int) (bs : List UInt8) (A B C : Bool) : DataW Unit := .agg [.lit (.int .i64 z), .lit (.string bs), .lit (.bool A), .lit (.bool B), .lit (.bool C)]
theorem formCells : Tryd.prog.cellsOf 35 = 5 := by kernel_rfl
theorem form5 {w : World} {fuel : Nat} {cs : List Value} {z : Int} {bs : List UInt8} {A B C : Bool} {q : List MemPlace}
    (h : DataW.trod (fun _ => ()) Tryd.prog w 0 (fun _ => true) false fuel 35 cs = some (formD z bs A B C, q)) : cs = [I z, .string ⟨bs.toArray⟩, .bool A, .bool B, .bool C] := by
  obtain ⟨xs, n, rfl, hx, hl, hxl, hall⟩ := DataW.trod_struct Tryd.underlying35 h
  have hc : Tryd.prog.cellsOf 35 = 5 := formCells
  rw [hc] at hl
  have c3 : Tryd.prog.cellsOf 3 = 1 := by kernel_rfl
  have c9 : Tryd.prog.cellsOf 9 = 1 := by kernel_rfl
  have c4 : Tryd.prog.cellsOf 4 = 1 := by kernel_rfl
  match xs, hxl, cs, hl with
  | [x0, x1, x2, x3, x4], _, [v0, v1, v2, v3, v4], _ =>
    have h0 := hall 0 _ rfl
    have h1 := hall 1 _ rfl
    have h2 := hall 2 _ rfl
    have h3 := hall 3 _ rfl
    have h4 := hall 4 _ rfl
    simp only [List.getElem_toArray, List.getElem_cons_zero, List.getElem_cons_succ] at h0 h1 h2 h3 h4
    rw [c3] at h0
    rw [c9] at h1
    rw [c4] at h2 h3 h4
    obtain ⟨z0, e0, rfl, _⟩ := DataW.trod_int Tryd.underlying3 (x := x0) h0
    obtain ⟨s1, e1, rfl, _⟩ := DataW.trod_string Tryd.underlying9 (x := x1) h1
    obtain ⟨b2, e2, rfl⟩ := DataW.trod_bool Tryd.underlying4 (x := x2) h2
    obtain ⟨b3, e3, rfl⟩ := DataW.trod_bool Tryd.underlying4 (x := x3) h3
    obtain ⟨b4, e4, rfl⟩ := DataW.trod_bool Tryd.underlying4 (x := x4) h4
    have g0 : v0 = .int .i64 z0 := by simpa using e0
    have g1 : v1 = .string s1 := by simpa using e1
    have g2 : v2 = .bool b2 := by simpa using e2
    have g3 : v3 = .bool b3 := by simpa using e3
    have g4 : v4 = .bool b4 := by simpa using e4
    have hx1 := congrArg Prod.fst hx
    simp only [formD, List.map_cons, List.map_nil, DataW.agg.injEq, List.cons.injEq, DataW.lit.injEq, Lit.int.injEq, Lit.string.injEq, Lit.bool.injEq, true_and, and_true] at hx1
    obtain ⟨rfl, hs, rfl, rfl, rfl⟩ := hx1
    subst g0 g1 g2 g3 g4
    have : (⟨bs.toArray⟩ : ByteArray) = s1 := ByteArray.ext (by rw [hs])
    rw [this]

theorem formT_of {w : World} (h : VarReads Tryd.prog w "vendmeter/order.forms" (.agg [formD 1 [114, 101, 103, 105, 115, 116, 101, 114] false false false, formD 2 [115, 101, 108, 108] true true true, formD 3 [103, 114, 97, 110, 116] true false true, formD 4 [114, 101, 107, 101, 121] false false true, formD 5 [99, 104, 97, 114, 103, 101] true true false, formD 6 [107, 101, 121] false false false, formD 7 [116, 105, 99, 107] true false false])) : FormT w := by
  obtain ⟨g, t, cs, fuel, p, hg, hty, hvar, hd⟩ := h
  have hg2 : Tryd.prog.globalNamed "vendmeter/order.forms" = some 0 := by kernel_rfl
  obtain rfl := Option.some.inj (hg2.symm.trans hg)
  have hty2 : (Tryd.prog.globals[(0 : Nat)]?).map (·.type) = some 36 := by kernel_rfl
  obtain rfl := Option.some.inj (hty2.symm.trans hty)
  have at5 : ∀ (k j : Nat) (v : Value) (l : List Value), ((cs.toList.drop (k * 5)).take 5) = l → l[j]? = some v → j < 5 → w.cell? ⟨0, k * 5 + j, none⟩ = some v := fun k j v l hl hv hj => by
    have := World.var?_cell hg hvar (k * 5 + j)
    rw [this, ← Array.getElem?_toList]
    rw [← hl, List.getElem?_take, if_pos hj, List.getElem?_drop] at hv
    exact hv
  intro k hk
  obtain ⟨f', d, q, hdi, he⟩ := array_elem Tryd.underlying36 hd k hk
  rw [formCells] at he
  have hk' : k = 0 ∨ k = 1 ∨ k = 2 ∨ k = 3 ∨ k = 4 ∨ k = 5 ∨ k = 6 := by omega
  rcases hk' with rfl | rfl | rfl | rfl | rfl | rfl | rfl <;>
    (obtain rfl := Option.some.inj hdi
     have hc := form5 he
     exact ⟨at5 _ 0 _ _ hc rfl (by decide), at5 _ 1 _ _ hc rfl (by decide), at5 _ 2 _ _ hc rfl (by decide), at5 _ 3 _ _ hc rfl (by decide), at5 _ 4 _ _ hc rfl (by decide)⟩)
end Go.Proofs.YtfhmcahfjoliiaaDoor
