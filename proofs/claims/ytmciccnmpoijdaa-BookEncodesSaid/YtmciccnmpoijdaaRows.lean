/-
  No cell of these rows narrows 'for every input' (looked for: loops, veiled, ifaces, maps, wideKeys, modest, calm, conditions, laid).
  DERIVED. THE GIVEN ROWS OF THIS SEAT. 4 by the template 'for every input the law returns true; each argument reads behind the call as it read before'; 0 by the template 'total and deterministic' (their statements: YtmciccnmpoijdaaTotals.lean).
  GIVEN WITH THE SEED: the statements are not yours to turn. If you find one false, say at which input.
  Laid BY PROGRAM, IN A SANDBOX (cutbox-rows.mjs): the forced cells as the released guide's own fill.sh prints them over the translation 1cb0615f3461b5ca… (all of the seat's roots in one cut). By AI agents, Wed Nov 11 2026. No macro, syntax, notation, axiom, sorry.
-/
import Derived.Test.YtmciccnmpoijdaaChecked
import GoSem.Claim
import GoSem.ClaimJoined
import GoSem.ClaimMapViews
import Derived.JoinedTies
import Derived.KernelRfl
namespace Go.Proofs.Ytmciccnmpoijdaa
/- THE CELL 'sum', in the pinned program and in every row, IS THE sha256 OF THE DUMP (.gsa) THAT YtmciccnmpoijdaaProg.lean LOADS. Nothing in Lean hashes anything: it is a label: what it is worth is what the hold of that sum in a sandbox is worth. -/
noncomputable def Try.pinned : Pinned := { name := "ytmciccnmpoijdaa", sum := "1cb0615f3461b5ca33d38dc7067a5d03fd7d881fa6f830e2a1758ac1fe5d3138", checked := Try.checked }
namespace Rows
def none {H : Type} : Left H := { results := [], args := [] }

/-- 'vendmeterlaw.MeterKeys': WHATEVER THE INPUT: true; the input reads as it did. -/
def meterKeysSpec : ChangeSpec := { name := "meterKeys", fn := fun _ => fun
  | [d1, d2, d3] => { results := [.lit (.bool true)], args := [d1, d2, d3] }
  | _ => none }
def meterKeysRow : OpenClaim := { program := "ytmciccnmpoijdaa", sum := "1cb0615f3461b5ca33d38dc7067a5d03fd7d881fa6f830e2a1758ac1fe5d3138", func := "vendmeter/vendmeterlaw.MeterKeys", spec := "meterKeys", unfollowed := true, recurses := true, plainKeys := false, apart := false }
def MeterKeysSaid : Prop := meterKeysRow.holds Try.pinned (OpenSpec.ofChange meterKeysSpec)

/-- ITS FALSE NEIGHBOUR: 'it returns false'. Refute it at one input. -/
def meterKeysWrong : ChangeSpec := { name := "meterKeys", fn := fun _ => fun
  | [d1, d2, d3] => { results := [.lit (.bool false)], args := [d1, d2, d3] }
  | _ => none }
def MeterKeysWrongFalsely : Prop := meterKeysRow.holds Try.pinned (OpenSpec.ofChange meterKeysWrong)

/-- 'vendmeterlaw.BookEncodes': WHATEVER THE INPUT: true; the input reads as it did. -/
def bookEncodesSpec : ChangeSpec := { name := "bookEncodes", fn := fun _ => fun
  | [d] => { results := [.lit (.bool true)], args := [d] }
  | _ => none }
def bookEncodesRow : OpenClaim := { program := "ytmciccnmpoijdaa", sum := "1cb0615f3461b5ca33d38dc7067a5d03fd7d881fa6f830e2a1758ac1fe5d3138", func := "vendmeter/vendmeterlaw.BookEncodes", spec := "bookEncodes", unfollowed := true, recurses := true, plainKeys := false, apart := false }
def BookEncodesSaid : Prop := bookEncodesRow.holds Try.pinned (OpenSpec.ofChange bookEncodesSpec)

/-- ITS FALSE NEIGHBOUR: 'it returns false'. Refute it at one input. -/
def bookEncodesWrong : ChangeSpec := { name := "bookEncodes", fn := fun _ => fun
  | [d] => { results := [.lit (.bool false)], args := [d] }
  | _ => none }
def BookEncodesWrongFalsely : Prop := bookEncodesRow.holds Try.pinned (OpenSpec.ofChange bookEncodesWrong)

/-- 'vendmeterlaw.BookDecodes': WHATEVER THE INPUT: true; the input reads as it did. -/
def bookDecodesSpec : ChangeSpec := { name := "bookDecodes", fn := fun _ => fun
  | [d] => { results := [.lit (.bool true)], args := [d] }
  | _ => none }
def bookDecodesRow : OpenClaim := { program := "ytmciccnmpoijdaa", sum := "1cb0615f3461b5ca33d38dc7067a5d03fd7d881fa6f830e2a1758ac1fe5d3138", func := "vendmeter/vendmeterlaw.BookDecodes", spec := "bookDecodes", unfollowed := true, recurses := true, plainKeys := false, apart := false }
def BookDecodesSaid : Prop := bookDecodesRow.holds Try.pinned (OpenSpec.ofChange bookDecodesSpec)

/-- ITS FALSE NEIGHBOUR: 'it returns false'. Refute it at one input. -/
def bookDecodesWrong : ChangeSpec := { name := "bookDecodes", fn := fun _ => fun
  | [d] => { results := [.lit (.bool false)], args := [d] }
  | _ => none }
def BookDecodesWrongFalsely : Prop := bookDecodesRow.holds Try.pinned (OpenSpec.ofChange bookDecodesWrong)

/-- 'vendmeterlaw.CentsReads': WHATEVER THE INPUT: true; the input reads as it did. -/
def centsReadsSpec : ChangeSpec := { name := "centsReads", fn := fun _ => fun
  | [d] => { results := [.lit (.bool true)], args := [d] }
  | _ => none }
def centsReadsRow : OpenClaim := { program := "ytmciccnmpoijdaa", sum := "1cb0615f3461b5ca33d38dc7067a5d03fd7d881fa6f830e2a1758ac1fe5d3138", func := "vendmeter/vendmeterlaw.CentsReads", spec := "centsReads", inPlace := ["internal/bytealg.IndexByteString", "internal/bytealg.IndexString"], named := ["internal/bytealg.MaxLen"], plainKeys := false, apart := false }
def CentsReadsSaid : Prop := centsReadsRow.holds Try.pinned (OpenSpec.ofChange centsReadsSpec)

/-- ITS FALSE NEIGHBOUR: 'it returns false'. Refute it at one input. -/
def centsReadsWrong : ChangeSpec := { name := "centsReads", fn := fun _ => fun
  | [d] => { results := [.lit (.bool false)], args := [d] }
  | _ => none }
def CentsReadsWrongFalsely : Prop := centsReadsRow.holds Try.pinned (OpenSpec.ofChange centsReadsWrong)

/- THE SECOND FORM. 'bulk': how many values and letters a reading holds, each counted each time it is reached (what is shared counts as often as it is met; a slice's spare places count too). A statement '..UptoSaid' is the law's where the arguments, and the package variables that the reading takes, are together of bulk at most 1048576: NARROWER than '..Said'. Prove '..Said' where nothing that the law and all that it calls make is longer than what came in: it says more and counts as full. Else prove '..UptoSaid'. A law counts once. -/
mutual
def uptoBulk {H : Type} : DataW H → Nat
  | .lit (.string bytes) => bytes.length + 1
  | .lit _ => 1
  | .nil => 1
  | .ptr d => uptoBulk d + 1
  | .slice elems spare => uptoBulkAll elems + uptoBulkAll spare + 1
  | .agg parts => uptoBulkAll parts + 1
  | .iface _ d => uptoBulk d + 1
  | .map entries => uptoBulkEntries entries + 1
  | .held _ => 1
def uptoBulkAll {H : Type} : List (DataW H) → Nat
  | [] => 0
  | d :: r => uptoBulk d + uptoBulkAll r
def uptoBulkEntries {H : Type} : List (Lit × DataW H) → Nat
  | [] => 0
  | x :: r => uptoBulkEntry x + uptoBulkEntries r
def uptoBulkEntry {H : Type} : Lit × DataW H → Nat
  | (.string bytes, d) => bytes.length + uptoBulk d + 1
  | (_, d) => uptoBulk d + 1
 end
def uptoSmall : (H : Type) → List (DataW H) → Bool := fun _ ds => decide (uptoBulkAll ds ≤ 1048576)
def OpenSpec.upto (s : _root_.Go.ChangeSpec) : _root_.Go.OpenSpec := { _root_.Go.OpenSpec.ofChange s with cond := some uptoSmall }

/-- 'vendmeterlaw.MeterKeys', WHERE WHAT IT READS IS OF BULK AT MOST 1048576: true; the input reads as it did. -/
def meterKeysUptoRow : OpenClaim := { program := "ytmciccnmpoijdaa", sum := "1cb0615f3461b5ca33d38dc7067a5d03fd7d881fa6f830e2a1758ac1fe5d3138", func := "vendmeter/vendmeterlaw.MeterKeys", spec := "meterKeys", unfollowed := true, recurses := true, plainKeys := false, apart := false, narrowed := true }
def MeterKeysUptoSaid : Prop := meterKeysUptoRow.holds Try.pinned (OpenSpec.upto meterKeysSpec)

/-- 'vendmeterlaw.BookEncodes', WHERE WHAT IT READS IS OF BULK AT MOST 1048576: true; the input reads as it did. -/
def bookEncodesUptoRow : OpenClaim := { program := "ytmciccnmpoijdaa", sum := "1cb0615f3461b5ca33d38dc7067a5d03fd7d881fa6f830e2a1758ac1fe5d3138", func := "vendmeter/vendmeterlaw.BookEncodes", spec := "bookEncodes", unfollowed := true, recurses := true, plainKeys := false, apart := false, narrowed := true }
def BookEncodesUptoSaid : Prop := bookEncodesUptoRow.holds Try.pinned (OpenSpec.upto bookEncodesSpec)

/-- 'vendmeterlaw.BookDecodes', WHERE WHAT IT READS IS OF BULK AT MOST 1048576: true; the input reads as it did. -/
def bookDecodesUptoRow : OpenClaim := { program := "ytmciccnmpoijdaa", sum := "1cb0615f3461b5ca33d38dc7067a5d03fd7d881fa6f830e2a1758ac1fe5d3138", func := "vendmeter/vendmeterlaw.BookDecodes", spec := "bookDecodes", unfollowed := true, recurses := true, plainKeys := false, apart := false, narrowed := true }
def BookDecodesUptoSaid : Prop := bookDecodesUptoRow.holds Try.pinned (OpenSpec.upto bookDecodesSpec)

/-- 'vendmeterlaw.CentsReads', WHERE WHAT IT READS IS OF BULK AT MOST 1048576: true; the input reads as it did. -/
def centsReadsUptoRow : OpenClaim := { program := "ytmciccnmpoijdaa", sum := "1cb0615f3461b5ca33d38dc7067a5d03fd7d881fa6f830e2a1758ac1fe5d3138", func := "vendmeter/vendmeterlaw.CentsReads", spec := "centsReads", inPlace := ["internal/bytealg.IndexByteString", "internal/bytealg.IndexString"], named := ["internal/bytealg.MaxLen"], plainKeys := false, apart := false, narrowed := true }
def CentsReadsUptoSaid : Prop := centsReadsUptoRow.holds Try.pinned (OpenSpec.upto centsReadsSpec)

end Rows
end Go.Proofs.Ytmciccnmpoijdaa
