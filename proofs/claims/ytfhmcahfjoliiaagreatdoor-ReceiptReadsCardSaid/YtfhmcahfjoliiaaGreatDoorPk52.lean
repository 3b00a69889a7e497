/- two structs held against each other, field by field · a receipt held against itself -/
import Derived.Laws.StructEq
import Derived.ChangeKeysEq
import Derived.Test.YtfhmcahfjoliiaaGreatDoorPk00
namespace Go.Proofs.YtfhmcahfjoliiaaGreatDoor
set_option linter.unusedSimpArgs false
set_option linter.unusedVariables false
open Go
set_option maxRecDepth 20000
section
variable {P:Program} (w:World) {d:Nat} {xs ys:Array Value} {f:Field} {fs:List Field}
theorem eqF_int {k q : IntKind} {a b : Int} (hn : f.name ≠ "_") (hu : P.underlying f.type = some (.int q)) (hx : xs[f.offset]? = some (.int k a)) (hy : ys[f.offset]? = some (.int k b)) :
    (Op.eqFields (d+1) xs ys (f::fs)).run P w=if a=b then (Op.eqFields (d+1) xs ys fs).run P w else .ok false w:=by
  have hp:P.plainKey f.type=true:=by simp [Program.plainKey,hu]
  simp only [Op.eqFields,hn,ne_eq,not_false_eq_true,if_true,Sem.run_bind,run_part_plain w hp hx,run_part_plain w hp hy,Result.andThen_ok,run_equalIn_int w d _ k q a b hu]
  by_cases h:a=b
  · simp [h]
  · simp [h]
theorem eqF_str {a b : ByteArray} (hn : f.name ≠ "_") (hu : P.underlying f.type = some .string) (hx : xs[f.offset]? = some (.string a)) (hy : ys[f.offset]? = some (.string b)) :
    (Op.eqFields (d+1) xs ys (f::fs)).run P w=if (a==b)=true then (Op.eqFields (d+1) xs ys fs).run P w else .ok false w:=by
  have hp:P.plainKey f.type=true:=by simp [Program.plainKey,hu]
  have he:(Op.equalIn (d+1) f.type (.string a) (.string b)).run P w=.ok (a==b) w:=by simp [Op.equalIn,run_underlying hu,Result.andThen]
  simp only [Op.eqFields,hn,ne_eq,not_false_eq_true,if_true,Sem.run_bind,run_part_plain w hp hx,run_part_plain w hp hy,Result.andThen_ok,he];cases h:(a==b)<;>simp
theorem eqF_sub {u v : Value} {r : Bool} (hn : f.name ≠ "_") (hx : (part f.type xs f.offset).run P w = .ok u w) (hy : (part f.type ys f.offset).run P w = .ok v w) (he : (Op.equalIn d f.type u v).run P w = .ok r w) :
    (Op.eqFields d xs ys (f::fs)).run P w=if r=true then (Op.eqFields d xs ys fs).run P w else .ok false w:=by
  simp only [Op.eqFields,hn,ne_eq,not_false_eq_true,if_true,Sem.run_bind,hx,hy,Result.andThen_ok,he];cases r<;>simp
theorem eqF_nil:(Op.eqFields d xs ys []).run P w=.ok true w:=by simp [Op.eqFields]
end
end Go.Proofs.YtfhmcahfjoliiaaGreatDoor
namespace Go.Proofs.YtfhmcahfjoliiaaGreatDoor
set_option linter.unusedSimpArgs false
set_option linter.unusedVariables false
open Go Go.RowKit
set_option maxRecDepth 20000
theorem selfBill (b1 b2 b3 b4 b5 b6 b7:Int) (w:World):(Op.equalIn 9999 23 (.agg #[I b1,I b2,I b3,I b4,I b5,I b6,I b7]) (.agg #[I b1,I b2,I b3,I b4,I b5,I b6,I b7])).run Tryz.prog w=.ok true w:=by
  have hp:Tryz.prog.stoodInHeld 23=false:=by kernel_rfl
  have ht:Tryz.prog.underlying 23=some (.struct (Tryz.prog.fieldsOf 23)):=by kernel_rfl
  rw [run_equalIn_struct w 9998 23 _ _ ht hp];simp only [Program.fieldsOf,Tryz.underlying23];rw [eqF_int w (by decide) Tryz.underlying3 rfl rfl,eqF_int w (by decide) Tryz.underlying3 rfl rfl,eqF_int w (by decide) Tryz.underlying3 rfl rfl,eqF_int w (by decide) Tryz.underlying3 rfl rfl,eqF_int w (by decide) Tryz.underlying3 rfl rfl,eqF_int w (by decide) Tryz.underlying3 rfl rfl,eqF_int w (by decide) Tryz.underlying3 rfl rfl,eqF_nil];simp
theorem selfReceipt (a b1 b2 b3 b4 b5 b6 b7:Int) (s:ByteArray) (w:World):(binOp .eql 25 (.agg #[I a,I b1,I b2,I b3,I b4,I b5,I b6,I b7,.string s]) (.agg #[I a,I b1,I b2,I b3,I b4,I b5,I b6,I b7,.string s])).run Tryz.prog w=.ok (.bool true) w:=by
  have hp:Tryz.prog.stoodInHeld 25=false:=by kernel_rfl
  have ht:Tryz.prog.underlying 25=some (.struct (Tryz.prog.fieldsOf 25)):=by kernel_rfl
  rw [run_eql_struct,run_equalIn_struct w 9999 25 _ _ ht hp];simp only [Program.fieldsOf,Tryz.underlying25];rw [eqF_int w (by decide) Tryz.underlying3 rfl rfl,eqF_sub w (u:=.agg #[I b1,I b2,I b3,I b4,I b5,I b6,I b7]) (v:=.agg #[I b1,I b2,I b3,I b4,I b5,I b6,I b7]) (r:=true) (by decide) (by kernel_rfl) (by kernel_rfl) (selfBill b1 b2 b3 b4 b5 b6 b7 w),eqF_str w (by decide) Tryz.underlying9 rfl rfl,eqF_nil];have hs:(s==s)=true:=by rw [beq_toListBytes];exact beq_self_eq_true _
  simp [Result.andThen,hs]
end Go.Proofs.YtfhmcahfjoliiaaGreatDoor
