/-
  No cell of these rows narrows 'for every input' (looked for: loops, veiled, ifaces, maps, wideKeys, modest, calm, conditions, laid).
  DERIVED. THE GIVEN ROWS OF THIS SEAT. 5 by the template 'for every input the law returns true; each argument reads behind the call as it read before'; 0 by the template 'total and deterministic' (their statements: YtenoigmkhlnfoaaTotals.lean).
  GIVEN WITH THE SEED: the statements are not yours to turn. If you find one false, say at which input.
  Laid BY PROGRAM, IN A SANDBOX (cutbox-rows.mjs): the forced cells as the released guide's own fill.sh prints them over the translation e6fdce84ef779d1e… (all of the seat's roots in one cut). By AI agents, Wed Nov 11 2026. No macro, syntax, notation, axiom, sorry.
-/
import Derived.Test.YtenoigmkhlnfoaaChecked
import GoSem.Claim
import GoSem.ClaimJoined
import GoSem.ClaimMapViews
import Derived.JoinedTies
import Derived.KernelRfl
namespace Go.Proofs.Ytenoigmkhlnfoaa
/- THE CELL 'sum', in the pinned program and in every row, IS THE sha256 OF THE DUMP (.gsa) THAT YtenoigmkhlnfoaaProg.lean LOADS. Nothing in Lean hashes anything: it is a label: what it is worth is what the hold of that sum in a sandbox is worth. -/
noncomputable def Try.pinned : Pinned := { name := "ytenoigmkhlnfoaa", sum := "e6fdce84ef779d1e692793babf7b19764c0c303b251a1488eb0729d65c2cbaca", checked := Try.checked }
namespace Rows
def none {H : Type} : Left H := { results := [], args := [] }

/-- 'vendmeterlaw.BookOfs': WHATEVER THE INPUT: true; the input reads as it did. -/
def bookOfsSpec : ChangeSpec := { name := "bookOfs", fn := fun _ => fun
  | [d1, d2] => { results := [.lit (.bool true)], args := [d1, d2] }
  | _ => none }
def bookOfsRow : OpenClaim := { program := "ytenoigmkhlnfoaa", sum := "e6fdce84ef779d1e692793babf7b19764c0c303b251a1488eb0729d65c2cbaca", func := "vendmeter/vendmeterlaw.BookOfs", spec := "bookOfs", inPlace := ["internal/reflectlite.ValueOf", "(internal/reflectlite.Value).Len"], unfollowed := true, recurses := true, apart := false }
def BookOfsSaid : Prop := bookOfsRow.holds Try.pinned (OpenSpec.ofChange bookOfsSpec)

/-- ITS FALSE NEIGHBOUR: 'it returns false'. Refute it at one input. -/
def bookOfsWrong : ChangeSpec := { name := "bookOfs", fn := fun _ => fun
  | [d1, d2] => { results := [.lit (.bool false)], args := [d1, d2] }
  | _ => none }
def BookOfsWrongFalsely : Prop := bookOfsRow.holds Try.pinned (OpenSpec.ofChange bookOfsWrong)

/-- 'vendmeterlaw.WorldBegins': WHATEVER THE INPUT: true; the input reads as it did. -/
def worldBeginsSpec : ChangeSpec := { name := "worldBegins", fn := fun _ => fun
  | [d1, d2, d3] => { results := [.lit (.bool true)], args := [d1, d2, d3] }
  | _ => none }
def worldBeginsRow : OpenClaim := { program := "ytenoigmkhlnfoaa", sum := "e6fdce84ef779d1e692793babf7b19764c0c303b251a1488eb0729d65c2cbaca", func := "vendmeter/vendmeterlaw.WorldBegins", spec := "worldBegins", inPlace := ["internal/reflectlite.ValueOf", "(internal/reflectlite.Value).Len"], unfollowed := true, recurses := true, apart := false }
def WorldBeginsSaid : Prop := worldBeginsRow.holds Try.pinned (OpenSpec.ofChange worldBeginsSpec)

/-- ITS FALSE NEIGHBOUR: 'it returns false'. Refute it at one input. -/
def worldBeginsWrong : ChangeSpec := { name := "worldBegins", fn := fun _ => fun
  | [d1, d2, d3] => { results := [.lit (.bool false)], args := [d1, d2, d3] }
  | _ => none }
def WorldBeginsWrongFalsely : Prop := worldBeginsRow.holds Try.pinned (OpenSpec.ofChange worldBeginsWrong)

/-- 'vendmeterlaw.VendLoads': WHATEVER THE INPUT: true; the input reads as it did. -/
def vendLoadsSpec : ChangeSpec := { name := "vendLoads", fn := fun _ => fun
  | [d1, d2] => { results := [.lit (.bool true)], args := [d1, d2] }
  | _ => none }
def vendLoadsRow : OpenClaim := { program := "ytenoigmkhlnfoaa", sum := "e6fdce84ef779d1e692793babf7b19764c0c303b251a1488eb0729d65c2cbaca", func := "vendmeter/vendmeterlaw.VendLoads", spec := "vendLoads", inPlace := ["internal/reflectlite.ValueOf", "(internal/reflectlite.Value).Len"], unfollowed := true, recurses := true, apart := false }
def VendLoadsSaid : Prop := vendLoadsRow.holds Try.pinned (OpenSpec.ofChange vendLoadsSpec)

/-- ITS FALSE NEIGHBOUR: 'it returns false'. Refute it at one input. -/
def vendLoadsWrong : ChangeSpec := { name := "vendLoads", fn := fun _ => fun
  | [d1, d2] => { results := [.lit (.bool false)], args := [d1, d2] }
  | _ => none }
def VendLoadsWrongFalsely : Prop := vendLoadsRow.holds Try.pinned (OpenSpec.ofChange vendLoadsWrong)

/-- 'vendmeterlaw.VendRegisters': WHATEVER THE INPUT: true; the input reads as it did. -/
def vendRegistersSpec : ChangeSpec := { name := "vendRegisters", fn := fun _ => fun
  | [d1, d2, d3] => { results := [.lit (.bool true)], args := [d1, d2, d3] }
  | _ => none }
def vendRegistersRow : OpenClaim := { program := "ytenoigmkhlnfoaa", sum := "e6fdce84ef779d1e692793babf7b19764c0c303b251a1488eb0729d65c2cbaca", func := "vendmeter/vendmeterlaw.VendRegisters", spec := "vendRegisters", inPlace := ["internal/reflectlite.ValueOf", "(internal/reflectlite.Value).Len"], unfollowed := true, recurses := true, apart := false }
def VendRegistersSaid : Prop := vendRegistersRow.holds Try.pinned (OpenSpec.ofChange vendRegistersSpec)

/-- ITS FALSE NEIGHBOUR: 'it returns false'. Refute it at one input. -/
def vendRegistersWrong : ChangeSpec := { name := "vendRegisters", fn := fun _ => fun
  | [d1, d2, d3] => { results := [.lit (.bool false)], args := [d1, d2, d3] }
  | _ => none }
def VendRegistersWrongFalsely : Prop := vendRegistersRow.holds Try.pinned (OpenSpec.ofChange vendRegistersWrong)

/-- 'vendmeterlaw.VendCharges': WHATEVER THE INPUT: true; the input reads as it did. -/
def vendChargesSpec : ChangeSpec := { name := "vendCharges", fn := fun _ => fun
  | [d1, d2, d3, d4] => { results := [.lit (.bool true)], args := [d1, d2, d3, d4] }
  | _ => none }
def vendChargesRow : OpenClaim := { program := "ytenoigmkhlnfoaa", sum := "e6fdce84ef779d1e692793babf7b19764c0c303b251a1488eb0729d65c2cbaca", func := "vendmeter/vendmeterlaw.VendCharges", spec := "vendCharges", inPlace := ["internal/reflectlite.ValueOf", "(internal/reflectlite.Value).Len"], unfollowed := true, recurses := true, apart := false }
def VendChargesSaid : Prop := vendChargesRow.holds Try.pinned (OpenSpec.ofChange vendChargesSpec)

/-- ITS FALSE NEIGHBOUR: 'it returns false'. Refute it at one input. -/
def vendChargesWrong : ChangeSpec := { name := "vendCharges", fn := fun _ => fun
  | [d1, d2, d3, d4] => { results := [.lit (.bool false)], args := [d1, d2, d3, d4] }
  | _ => none }
def VendChargesWrongFalsely : Prop := vendChargesRow.holds Try.pinned (OpenSpec.ofChange vendChargesWrong)

/- THE SECOND FORM. 'bulk': how many values and letters a reading holds, each counted each time it is reached (what is shared counts as often as it is met; a slice's spare places count too). A statement '..UptoSaid' is the law's where the arguments, and the package variables that the reading takes, are together of bulk at most 1048576: NARROWER than '..Said'. Prove '..Said' where nothing that the law and all that it calls make is longer than what came in: it says more and counts as full. Else prove '..UptoSaid'. A law counts once. -/
mutual
def uptoBulk {H : Type} : DataW H → Nat
  | .lit (.string bytes) => bytes.length + 1
  | .lit _ => 1
  | .nil => 1
  | .ptr d => uptoBulk d + 1
  | .slice elems spare => uptoBulkAll elems + uptoBulkAll spare + 1
  | .agg parts => uptoBulkAll parts + 1
  | .iface _ d => uptoBulk d + 1
  | .map entries => uptoBulkEntries entries + 1
  | .held _ => 1
def uptoBulkAll {H : Type} : List (DataW H) → Nat
  | [] => 0
  | d :: r => uptoBulk d + uptoBulkAll r
def uptoBulkEntries {H : Type} : List (Lit × DataW H) → Nat
  | [] => 0
  | x :: r => uptoBulkEntry x + uptoBulkEntries r
def uptoBulkEntry {H : Type} : Lit × DataW H → Nat
  | (.string bytes, d) => bytes.length + uptoBulk d + 1
  | (_, d) => uptoBulk d + 1
 end
def uptoSmall : (H : Type) → List (DataW H) → Bool := fun _ ds => decide (uptoBulkAll ds ≤ 1048576)
def OpenSpec.upto (s : _root_.Go.ChangeSpec) : _root_.Go.OpenSpec := { _root_.Go.OpenSpec.ofChange s with cond := some uptoSmall }

/-- 'vendmeterlaw.BookOfs', WHERE WHAT IT READS IS OF BULK AT MOST 1048576: true; the input reads as it did. -/
def bookOfsUptoRow : OpenClaim := { program := "ytenoigmkhlnfoaa", sum := "e6fdce84ef779d1e692793babf7b19764c0c303b251a1488eb0729d65c2cbaca", func := "vendmeter/vendmeterlaw.BookOfs", spec := "bookOfs", inPlace := ["internal/reflectlite.ValueOf", "(internal/reflectlite.Value).Len"], unfollowed := true, recurses := true, apart := false, narrowed := true }
def BookOfsUptoSaid : Prop := bookOfsUptoRow.holds Try.pinned (OpenSpec.upto bookOfsSpec)

/-- 'vendmeterlaw.WorldBegins', WHERE WHAT IT READS IS OF BULK AT MOST 1048576: true; the input reads as it did. -/
def worldBeginsUptoRow : OpenClaim := { program := "ytenoigmkhlnfoaa", sum := "e6fdce84ef779d1e692793babf7b19764c0c303b251a1488eb0729d65c2cbaca", func := "vendmeter/vendmeterlaw.WorldBegins", spec := "worldBegins", inPlace := ["internal/reflectlite.ValueOf", "(internal/reflectlite.Value).Len"], unfollowed := true, recurses := true, apart := false, narrowed := true }
def WorldBeginsUptoSaid : Prop := worldBeginsUptoRow.holds Try.pinned (OpenSpec.upto worldBeginsSpec)

/-- 'vendmeterlaw.VendLoads', WHERE WHAT IT READS IS OF BULK AT MOST 1048576: true; the input reads as it did. -/
def vendLoadsUptoRow : OpenClaim := { program := "ytenoigmkhlnfoaa", sum := "e6fdce84ef779d1e692793babf7b19764c0c303b251a1488eb0729d65c2cbaca", func := "vendmeter/vendmeterlaw.VendLoads", spec := "vendLoads", inPlace := ["internal/reflectlite.ValueOf", "(internal/reflectlite.Value).Len"], unfollowed := true, recurses := true, apart := false, narrowed := true }
def VendLoadsUptoSaid : Prop := vendLoadsUptoRow.holds Try.pinned (OpenSpec.upto vendLoadsSpec)

/-- 'vendmeterlaw.VendRegisters', WHERE WHAT IT READS IS OF BULK AT MOST 1048576: true; the input reads as it did. -/
def vendRegistersUptoRow : OpenClaim := { program := "ytenoigmkhlnfoaa", sum := "e6fdce84ef779d1e692793babf7b19764c0c303b251a1488eb0729d65c2cbaca", func := "vendmeter/vendmeterlaw.VendRegisters", spec := "vendRegisters", inPlace := ["internal/reflectlite.ValueOf", "(internal/reflectlite.Value).Len"], unfollowed := true, recurses := true, apart := false, narrowed := true }
def VendRegistersUptoSaid : Prop := vendRegistersUptoRow.holds Try.pinned (OpenSpec.upto vendRegistersSpec)

/-- 'vendmeterlaw.VendCharges', WHERE WHAT IT READS IS OF BULK AT MOST 1048576: true; the input reads as it did. -/
def vendChargesUptoRow : OpenClaim := { program := "ytenoigmkhlnfoaa", sum := "e6fdce84ef779d1e692793babf7b19764c0c303b251a1488eb0729d65c2cbaca", func := "vendmeter/vendmeterlaw.VendCharges", spec := "vendCharges", inPlace := ["internal/reflectlite.ValueOf", "(internal/reflectlite.Value).Len"], unfollowed := true, recurses := true, apart := false, narrowed := true }
def VendChargesUptoSaid : Prop := vendChargesUptoRow.holds Try.pinned (OpenSpec.upto vendChargesSpec)

end Rows
end Go.Proofs.Ytenoigmkhlnfoaa
