/- two structs held against each other, field by field -/
import Derived.Laws.StructEq
import Derived.ChangeKeysEq
namespace Go.Proofs.Ytmciccnmpoijdaa
open Go
set_option maxRecDepth 20000
section
variable {P : Program} (w : World) {d : Nat} {xs ys : Array Value} {f : Field} {fs : List Field}
theorem eqF_int {k q : IntKind} {a b : Int} (hn : f.name ≠ "_") (hu : P.underlying f.type = some (.int q)) (hx : xs[f.offset]? = some (.int k a)) (hy : ys[f.offset]? = some (.int k b)) :
    (Op.eqFields (d + 1) xs ys (f :: fs)).run P w = if a = b then (Op.eqFields (d + 1) xs ys fs).run P w else .ok false w := by
  have hp : P.plainKey f.type = true := by simp [Program.plainKey, hu]
  simp only [Op.eqFields, hn, ne_eq, not_false_eq_true, if_true, Sem.run_bind, run_part_plain w hp hx, run_part_plain w hp hy, Result.andThen_ok, run_equalIn_int w d _ k q a b hu]
  by_cases h : a = b
  · simp [h]
  · simp [h]
theorem eqF_str {a b : ByteArray} (hn : f.name ≠ "_") (hu : P.underlying f.type = some .string) (hx : xs[f.offset]? = some (.string a)) (hy : ys[f.offset]? = some (.string b)) :
    (Op.eqFields (d + 1) xs ys (f :: fs)).run P w = if (a == b) = true then (Op.eqFields (d + 1) xs ys fs).run P w else .ok false w := by
  have hp : P.plainKey f.type = true := by simp [Program.plainKey, hu]
  have he : (Op.equalIn (d + 1) f.type (.string a) (.string b)).run P w = .ok (a == b) w := by simp [Op.equalIn, run_underlying hu, Result.andThen]
  simp only [Op.eqFields, hn, ne_eq, not_false_eq_true, if_true, Sem.run_bind, run_part_plain w hp hx, run_part_plain w hp hy, Result.andThen_ok, he]
  cases h : (a == b) <;> simp
theorem eqF_sub {u v : Value} {r : Bool} (hn : f.name ≠ "_") (hx : (part f.type xs f.offset).run P w = .ok u w) (hy : (part f.type ys f.offset).run P w = .ok v w) (he : (Op.equalIn d f.type u v).run P w = .ok r w) :
    (Op.eqFields d xs ys (f :: fs)).run P w = if r = true then (Op.eqFields d xs ys fs).run P w else .ok false w := by
  simp only [Op.eqFields, hn, ne_eq, not_false_eq_true, if_true, Sem.run_bind, hx, hy, Result.andThen_ok, he]
  cases r <;> simp
theorem eqF_nil : (Op.eqFields d xs ys []).run P w = .ok true w := by simp [Op.eqFields]
end
end Go.Proofs.Ytmciccnmpoijdaa
