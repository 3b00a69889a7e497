/-
  No cell of these rows narrows 'for every input' (looked for: loops, veiled, ifaces, maps, wideKeys, modest, calm, conditions, laid).
  DERIVED. THE GIVEN ROWS OF THIS SEAT. 4 by the template 'for every input the law returns true; each argument reads behind the call as it read before'; 0 by the template 'total and deterministic' (their statements: YtdjgcenjonegjaaGreatTotals.lean).
  GIVEN WITH THE SEED: the statements are not yours to turn. If you find one false, say at which input.
  Laid BY PROGRAM, IN A SANDBOX (cutbox-rows.mjs): the forced cells as the released guide's own fill.sh prints them over the translation 066a15d3082bdaf6… (all of the seat's roots in one cut). By AI agents, Wed Nov 11 2026. No macro, syntax, notation, axiom, sorry.
-/
import Derived.Test.YtdjgcenjonegjaaGreatChecked
import GoSem.Claim
import GoSem.ClaimJoined
import GoSem.ClaimMapViews
import Derived.JoinedTies
import Derived.KernelRfl
namespace Go.Proofs.YtdjgcenjonegjaaGreat
/- THE CELL 'sum', in the pinned program and in every row, IS THE sha256 OF THE DUMP (.gsa) THAT YtdjgcenjonegjaaGreatProg.lean LOADS. Nothing in Lean hashes anything: it is a label: what it is worth is what the hold of that sum in a sandbox is worth. -/
noncomputable def Tryz.pinned : Pinned := { name := "ytdjgcenjonegjaagreat", sum := "066a15d3082bdaf6c67e4a51b38d2e6283a629931591e73c217ebb05653171a2", checked := Tryz.checked }
namespace Rows
def none {H : Type} : Left H := { results := [], args := [] }

/-- 'vendmeterlaw.VendReprints': WHATEVER THE INPUT: true; the input reads as it did. -/
def vendReprintsSpec : ChangeSpec := { name := "vendReprints", fn := fun _ => fun
  | [d1, d2, d3, d4] => { results := [.lit (.bool true)], args := [d1, d2, d3, d4] }
  | _ => none }
def vendReprintsRow : OpenClaim := { program := "ytdjgcenjonegjaagreat", sum := "066a15d3082bdaf6c67e4a51b38d2e6283a629931591e73c217ebb05653171a2", func := "vendmeter/vendmeterlaw.VendReprints", spec := "vendReprints", inPlace := ["internal/reflectlite.ValueOf", "(internal/reflectlite.Value).Len", "internal/abi.NoEscape", "internal/bytealg.MakeNoZero"], unfollowed := true, recurses := true, named := ["math/bits.overflowError"], plainKeys := false, apart := false }
def VendReprintsSaid : Prop := vendReprintsRow.holds Tryz.pinned (OpenSpec.ofChange vendReprintsSpec)

/-- ITS FALSE NEIGHBOUR: 'it returns false'. Refute it at one input. -/
def vendReprintsWrong : ChangeSpec := { name := "vendReprints", fn := fun _ => fun
  | [d1, d2, d3, d4] => { results := [.lit (.bool false)], args := [d1, d2, d3, d4] }
  | _ => none }
def VendReprintsWrongFalsely : Prop := vendReprintsRow.holds Tryz.pinned (OpenSpec.ofChange vendReprintsWrong)

/-- 'vendmeterlaw.VendRekeys': WHATEVER THE INPUT: true; the input reads as it did. -/
def vendRekeysSpec : ChangeSpec := { name := "vendRekeys", fn := fun _ => fun
  | [d1, d2, d3, d4, d5] => { results := [.lit (.bool true)], args := [d1, d2, d3, d4, d5] }
  | _ => none }
def vendRekeysRow : OpenClaim := { program := "ytdjgcenjonegjaagreat", sum := "066a15d3082bdaf6c67e4a51b38d2e6283a629931591e73c217ebb05653171a2", func := "vendmeter/vendmeterlaw.VendRekeys", spec := "vendRekeys", inPlace := ["internal/reflectlite.ValueOf", "(internal/reflectlite.Value).Len", "internal/abi.NoEscape", "internal/bytealg.MakeNoZero"], unfollowed := true, recurses := true, named := ["math/bits.overflowError"], plainKeys := false, apart := false }
def VendRekeysSaid : Prop := vendRekeysRow.holds Tryz.pinned (OpenSpec.ofChange vendRekeysSpec)

/-- ITS FALSE NEIGHBOUR: 'it returns false'. Refute it at one input. -/
def vendRekeysWrong : ChangeSpec := { name := "vendRekeys", fn := fun _ => fun
  | [d1, d2, d3, d4, d5] => { results := [.lit (.bool false)], args := [d1, d2, d3, d4, d5] }
  | _ => none }
def VendRekeysWrongFalsely : Prop := vendRekeysRow.holds Tryz.pinned (OpenSpec.ofChange vendRekeysWrong)

/-- 'vendmeterlaw.VendSells': WHATEVER THE INPUT: true; the input reads as it did. -/
def vendSellsSpec : ChangeSpec := { name := "vendSells", fn := fun _ => fun
  | [d1, d2, d3, d4, d5, d6, d7] => { results := [.lit (.bool true)], args := [d1, d2, d3, d4, d5, d6, d7] }
  | _ => none }
def vendSellsRow : OpenClaim := { program := "ytdjgcenjonegjaagreat", sum := "066a15d3082bdaf6c67e4a51b38d2e6283a629931591e73c217ebb05653171a2", func := "vendmeter/vendmeterlaw.VendSells", spec := "vendSells", inPlace := ["internal/reflectlite.ValueOf", "(internal/reflectlite.Value).Len", "internal/abi.NoEscape", "internal/bytealg.MakeNoZero"], unfollowed := true, recurses := true, named := ["math/bits.overflowError"], plainKeys := false, apart := false }
def VendSellsSaid : Prop := vendSellsRow.holds Tryz.pinned (OpenSpec.ofChange vendSellsSpec)

/-- ITS FALSE NEIGHBOUR: 'it returns false'. Refute it at one input. -/
def vendSellsWrong : ChangeSpec := { name := "vendSells", fn := fun _ => fun
  | [d1, d2, d3, d4, d5, d6, d7] => { results := [.lit (.bool false)], args := [d1, d2, d3, d4, d5, d6, d7] }
  | _ => none }
def VendSellsWrongFalsely : Prop := vendSellsRow.holds Tryz.pinned (OpenSpec.ofChange vendSellsWrong)

/-- 'vendmeterlaw.VendGrants': WHATEVER THE INPUT: true; the input reads as it did. -/
def vendGrantsSpec : ChangeSpec := { name := "vendGrants", fn := fun _ => fun
  | [d1, d2, d3, d4, d5, d6] => { results := [.lit (.bool true)], args := [d1, d2, d3, d4, d5, d6] }
  | _ => none }
def vendGrantsRow : OpenClaim := { program := "ytdjgcenjonegjaagreat", sum := "066a15d3082bdaf6c67e4a51b38d2e6283a629931591e73c217ebb05653171a2", func := "vendmeter/vendmeterlaw.VendGrants", spec := "vendGrants", inPlace := ["internal/reflectlite.ValueOf", "(internal/reflectlite.Value).Len", "internal/abi.NoEscape", "internal/bytealg.MakeNoZero"], unfollowed := true, recurses := true, named := ["math/bits.overflowError"], plainKeys := false, apart := false }
def VendGrantsSaid : Prop := vendGrantsRow.holds Tryz.pinned (OpenSpec.ofChange vendGrantsSpec)

/-- ITS FALSE NEIGHBOUR: 'it returns false'. Refute it at one input. -/
def vendGrantsWrong : ChangeSpec := { name := "vendGrants", fn := fun _ => fun
  | [d1, d2, d3, d4, d5, d6] => { results := [.lit (.bool false)], args := [d1, d2, d3, d4, d5, d6] }
  | _ => none }
def VendGrantsWrongFalsely : Prop := vendGrantsRow.holds Tryz.pinned (OpenSpec.ofChange vendGrantsWrong)

/- THE SECOND FORM. 'bulk': how many values and letters a reading holds, each counted each time it is reached (what is shared counts as often as it is met; a slice's spare places count too). A statement '..UptoSaid' is the law's where the arguments, and the package variables that the reading takes, are together of bulk at most 1048576: NARROWER than '..Said'. Prove '..Said' where nothing that the law and all that it calls make is longer than what came in: it says more and counts as full. Else prove '..UptoSaid'. A law counts once. -/
mutual
def uptoBulk {H : Type} : DataW H → Nat
  | .lit (.string bytes) => bytes.length + 1
  | .lit _ => 1
  | .nil => 1
  | .ptr d => uptoBulk d + 1
  | .slice elems spare => uptoBulkAll elems + uptoBulkAll spare + 1
  | .agg parts => uptoBulkAll parts + 1
  | .iface _ d => uptoBulk d + 1
  | .map entries => uptoBulkEntries entries + 1
  | .held _ => 1
def uptoBulkAll {H : Type} : List (DataW H) → Nat
  | [] => 0
  | d :: r => uptoBulk d + uptoBulkAll r
def uptoBulkEntries {H : Type} : List (Lit × DataW H) → Nat
  | [] => 0
  | x :: r => uptoBulkEntry x + uptoBulkEntries r
def uptoBulkEntry {H : Type} : Lit × DataW H → Nat
  | (.string bytes, d) => bytes.length + uptoBulk d + 1
  | (_, d) => uptoBulk d + 1
 end
def uptoSmall : (H : Type) → List (DataW H) → Bool := fun _ ds => decide (uptoBulkAll ds ≤ 1048576)
def OpenSpec.upto (s : _root_.Go.ChangeSpec) : _root_.Go.OpenSpec := { _root_.Go.OpenSpec.ofChange s with cond := some uptoSmall }

/-- 'vendmeterlaw.VendReprints', WHERE WHAT IT READS IS OF BULK AT MOST 1048576: true; the input reads as it did. -/
def vendReprintsUptoRow : OpenClaim := { program := "ytdjgcenjonegjaagreat", sum := "066a15d3082bdaf6c67e4a51b38d2e6283a629931591e73c217ebb05653171a2", func := "vendmeter/vendmeterlaw.VendReprints", spec := "vendReprints", inPlace := ["internal/reflectlite.ValueOf", "(internal/reflectlite.Value).Len", "internal/abi.NoEscape", "internal/bytealg.MakeNoZero"], unfollowed := true, recurses := true, named := ["math/bits.overflowError"], plainKeys := false, apart := false, narrowed := true }
def VendReprintsUptoSaid : Prop := vendReprintsUptoRow.holds Tryz.pinned (OpenSpec.upto vendReprintsSpec)

/-- 'vendmeterlaw.VendRekeys', WHERE WHAT IT READS IS OF BULK AT MOST 1048576: true; the input reads as it did. -/
def vendRekeysUptoRow : OpenClaim := { program := "ytdjgcenjonegjaagreat", sum := "066a15d3082bdaf6c67e4a51b38d2e6283a629931591e73c217ebb05653171a2", func := "vendmeter/vendmeterlaw.VendRekeys", spec := "vendRekeys", inPlace := ["internal/reflectlite.ValueOf", "(internal/reflectlite.Value).Len", "internal/abi.NoEscape", "internal/bytealg.MakeNoZero"], unfollowed := true, recurses := true, named := ["math/bits.overflowError"], plainKeys := false, apart := false, narrowed := true }
def VendRekeysUptoSaid : Prop := vendRekeysUptoRow.holds Tryz.pinned (OpenSpec.upto vendRekeysSpec)

/-- 'vendmeterlaw.VendSells', WHERE WHAT IT READS IS OF BULK AT MOST 1048576: true; the input reads as it did. -/
def vendSellsUptoRow : OpenClaim := { program := "ytdjgcenjonegjaagreat", sum := "066a15d3082bdaf6c67e4a51b38d2e6283a629931591e73c217ebb05653171a2", func := "vendmeter/vendmeterlaw.VendSells", spec := "vendSells", inPlace := ["internal/reflectlite.ValueOf", "(internal/reflectlite.Value).Len", "internal/abi.NoEscape", "internal/bytealg.MakeNoZero"], unfollowed := true, recurses := true, named := ["math/bits.overflowError"], plainKeys := false, apart := false, narrowed := true }
def VendSellsUptoSaid : Prop := vendSellsUptoRow.holds Tryz.pinned (OpenSpec.upto vendSellsSpec)

/-- 'vendmeterlaw.VendGrants', WHERE WHAT IT READS IS OF BULK AT MOST 1048576: true; the input reads as it did. -/
def vendGrantsUptoRow : OpenClaim := { program := "ytdjgcenjonegjaagreat", sum := "066a15d3082bdaf6c67e4a51b38d2e6283a629931591e73c217ebb05653171a2", func := "vendmeter/vendmeterlaw.VendGrants", spec := "vendGrants", inPlace := ["internal/reflectlite.ValueOf", "(internal/reflectlite.Value).Len", "internal/abi.NoEscape", "internal/bytealg.MakeNoZero"], unfollowed := true, recurses := true, named := ["math/bits.overflowError"], plainKeys := false, apart := false, narrowed := true }
def VendGrantsUptoSaid : Prop := vendGrantsUptoRow.holds Tryz.pinned (OpenSpec.upto vendGrantsSpec)

end Rows
end Go.Proofs.YtdjgcenjonegjaaGreat
