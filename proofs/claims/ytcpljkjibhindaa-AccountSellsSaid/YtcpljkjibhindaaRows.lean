/-
  No cell of these rows narrows 'for every input' (looked for: loops, veiled, ifaces, maps, wideKeys, modest, calm, conditions, laid).
  DERIVED. THE GIVEN ROWS OF THIS SEAT. 12 by the template 'for every input the law returns true; each argument reads behind the call as it read before'; 0 by the template 'total and deterministic' (their statements: YtcpljkjibhindaaTotals.lean).
  GIVEN WITH THE SEED: the statements are not yours to turn. If you find one false, say at which input.
  Laid BY PROGRAM, IN A SANDBOX (cutbox-rows.mjs): the forced cells as the released guide's own fill.sh prints them over the translation ff00f11324e2f5c6… (all of the seat's roots in one cut). By AI agents, Wed Nov 11 2026. No macro, syntax, notation, axiom, sorry.
-/
import Derived.Test.YtcpljkjibhindaaChecked
import GoSem.Claim
import GoSem.ClaimJoined
import GoSem.ClaimMapViews
import Derived.JoinedTies
import Derived.KernelRfl
namespace Go.Proofs.Ytcpljkjibhindaa
/- THE CELL 'sum', in the pinned program and in every row, IS THE sha256 OF THE DUMP (.gsa) THAT YtcpljkjibhindaaProg.lean LOADS. Nothing in Lean hashes anything: it is a label: what it is worth is what the hold of that sum in a sandbox is worth. -/
noncomputable def Try.pinned : Pinned := { name := "ytcpljkjibhindaa", sum := "ff00f11324e2f5c63c2b4a49225e94716956a541218d7bef0ac8fda21263a440", checked := Try.checked }
namespace Rows
def none {H : Type} : Left H := { results := [], args := [] }

/-- 'vendmeterlaw.TariffChecks': WHATEVER THE INPUT: true; the input reads as it did. -/
def tariffChecksSpec : ChangeSpec := { name := "tariffChecks", fn := fun _ => fun
  | [d] => { results := [.lit (.bool true)], args := [d] }
  | _ => none }
def tariffChecksRow : OpenClaim := { program := "ytcpljkjibhindaa", sum := "ff00f11324e2f5c63c2b4a49225e94716956a541218d7bef0ac8fda21263a440", func := "vendmeter/vendmeterlaw.TariffChecks", spec := "tariffChecks", inPlace := ["internal/reflectlite.ValueOf", "(internal/reflectlite.Value).Len"], unfollowed := true, recurses := true, apart := false }
def TariffChecksSaid : Prop := tariffChecksRow.holds Try.pinned (OpenSpec.ofChange tariffChecksSpec)

/-- ITS FALSE NEIGHBOUR: 'it returns false'. Refute it at one input. -/
def tariffChecksWrong : ChangeSpec := { name := "tariffChecks", fn := fun _ => fun
  | [d] => { results := [.lit (.bool false)], args := [d] }
  | _ => none }
def TariffChecksWrongFalsely : Prop := tariffChecksRow.holds Try.pinned (OpenSpec.ofChange tariffChecksWrong)

/-- 'vendmeterlaw.TariffBills': WHATEVER THE INPUT: true; the input reads as it did. -/
def tariffBillsSpec : ChangeSpec := { name := "tariffBills", fn := fun _ => fun
  | [d1, d2, d3] => { results := [.lit (.bool true)], args := [d1, d2, d3] }
  | _ => none }
def tariffBillsRow : OpenClaim := { program := "ytcpljkjibhindaa", sum := "ff00f11324e2f5c63c2b4a49225e94716956a541218d7bef0ac8fda21263a440", func := "vendmeter/vendmeterlaw.TariffBills", spec := "tariffBills", inPlace := ["internal/reflectlite.ValueOf", "(internal/reflectlite.Value).Len"], unfollowed := true, recurses := true, apart := false }
def TariffBillsSaid : Prop := tariffBillsRow.holds Try.pinned (OpenSpec.ofChange tariffBillsSpec)

/-- ITS FALSE NEIGHBOUR: 'it returns false'. Refute it at one input. -/
def tariffBillsWrong : ChangeSpec := { name := "tariffBills", fn := fun _ => fun
  | [d1, d2, d3] => { results := [.lit (.bool false)], args := [d1, d2, d3] }
  | _ => none }
def TariffBillsWrongFalsely : Prop := tariffBillsRow.holds Try.pinned (OpenSpec.ofChange tariffBillsWrong)

/-- 'vendmeterlaw.TariffMosts': WHATEVER THE INPUT: true; the input reads as it did. -/
def tariffMostsSpec : ChangeSpec := { name := "tariffMosts", fn := fun _ => fun
  | [d1, d2, d3] => { results := [.lit (.bool true)], args := [d1, d2, d3] }
  | _ => none }
def tariffMostsRow : OpenClaim := { program := "ytcpljkjibhindaa", sum := "ff00f11324e2f5c63c2b4a49225e94716956a541218d7bef0ac8fda21263a440", func := "vendmeter/vendmeterlaw.TariffMosts", spec := "tariffMosts", inPlace := ["internal/reflectlite.ValueOf", "(internal/reflectlite.Value).Len"], unfollowed := true, recurses := true, apart := false }
def TariffMostsSaid : Prop := tariffMostsRow.holds Try.pinned (OpenSpec.ofChange tariffMostsSpec)

/-- ITS FALSE NEIGHBOUR: 'it returns false'. Refute it at one input. -/
def tariffMostsWrong : ChangeSpec := { name := "tariffMosts", fn := fun _ => fun
  | [d1, d2, d3] => { results := [.lit (.bool false)], args := [d1, d2, d3] }
  | _ => none }
def TariffMostsWrongFalsely : Prop := tariffMostsRow.holds Try.pinned (OpenSpec.ofChange tariffMostsWrong)

/-- 'vendmeterlaw.TariffPrices': WHATEVER THE INPUT: true; the input reads as it did. -/
def tariffPricesSpec : ChangeSpec := { name := "tariffPrices", fn := fun _ => fun
  | [d1, d2, d3] => { results := [.lit (.bool true)], args := [d1, d2, d3] }
  | _ => none }
def tariffPricesRow : OpenClaim := { program := "ytcpljkjibhindaa", sum := "ff00f11324e2f5c63c2b4a49225e94716956a541218d7bef0ac8fda21263a440", func := "vendmeter/vendmeterlaw.TariffPrices", spec := "tariffPrices", inPlace := ["internal/reflectlite.ValueOf", "(internal/reflectlite.Value).Len"], unfollowed := true, recurses := true, apart := false }
def TariffPricesSaid : Prop := tariffPricesRow.holds Try.pinned (OpenSpec.ofChange tariffPricesSpec)

/-- ITS FALSE NEIGHBOUR: 'it returns false'. Refute it at one input. -/
def tariffPricesWrong : ChangeSpec := { name := "tariffPrices", fn := fun _ => fun
  | [d1, d2, d3] => { results := [.lit (.bool false)], args := [d1, d2, d3] }
  | _ => none }
def TariffPricesWrongFalsely : Prop := tariffPricesRow.holds Try.pinned (OpenSpec.ofChange tariffPricesWrong)

/-- 'vendmeterlaw.AccountOpens': WHATEVER THE INPUT: true; the input reads as it did. -/
def accountOpensSpec : ChangeSpec := { name := "accountOpens", fn := fun _ => fun
  | [d] => { results := [.lit (.bool true)], args := [d] }
  | _ => none }
def accountOpensRow : OpenClaim := { program := "ytcpljkjibhindaa", sum := "ff00f11324e2f5c63c2b4a49225e94716956a541218d7bef0ac8fda21263a440", func := "vendmeter/vendmeterlaw.AccountOpens", spec := "accountOpens", apart := false }
def AccountOpensSaid : Prop := accountOpensRow.holds Try.pinned (OpenSpec.ofChange accountOpensSpec)

/-- ITS FALSE NEIGHBOUR: 'it returns false'. Refute it at one input. -/
def accountOpensWrong : ChangeSpec := { name := "accountOpens", fn := fun _ => fun
  | [d] => { results := [.lit (.bool false)], args := [d] }
  | _ => none }
def AccountOpensWrongFalsely : Prop := accountOpensRow.holds Try.pinned (OpenSpec.ofChange accountOpensWrong)

/-- 'vendmeterlaw.AccountOwes': WHATEVER THE INPUT: true; the input reads as it did. -/
def accountOwesSpec : ChangeSpec := { name := "accountOwes", fn := fun _ => fun
  | [d1, d2] => { results := [.lit (.bool true)], args := [d1, d2] }
  | _ => none }
def accountOwesRow : OpenClaim := { program := "ytcpljkjibhindaa", sum := "ff00f11324e2f5c63c2b4a49225e94716956a541218d7bef0ac8fda21263a440", func := "vendmeter/vendmeterlaw.AccountOwes", spec := "accountOwes", apart := false }
def AccountOwesSaid : Prop := accountOwesRow.holds Try.pinned (OpenSpec.ofChange accountOwesSpec)

/-- ITS FALSE NEIGHBOUR: 'it returns false'. Refute it at one input. -/
def accountOwesWrong : ChangeSpec := { name := "accountOwes", fn := fun _ => fun
  | [d1, d2] => { results := [.lit (.bool false)], args := [d1, d2] }
  | _ => none }
def AccountOwesWrongFalsely : Prop := accountOwesRow.holds Try.pinned (OpenSpec.ofChange accountOwesWrong)

/-- 'vendmeterlaw.AccountRekeys': WHATEVER THE INPUT: true; the input reads as it did. -/
def accountRekeysSpec : ChangeSpec := { name := "accountRekeys", fn := fun _ => fun
  | [d] => { results := [.lit (.bool true)], args := [d] }
  | _ => none }
def accountRekeysRow : OpenClaim := { program := "ytcpljkjibhindaa", sum := "ff00f11324e2f5c63c2b4a49225e94716956a541218d7bef0ac8fda21263a440", func := "vendmeter/vendmeterlaw.AccountRekeys", spec := "accountRekeys", apart := false }
def AccountRekeysSaid : Prop := accountRekeysRow.holds Try.pinned (OpenSpec.ofChange accountRekeysSpec)

/-- ITS FALSE NEIGHBOUR: 'it returns false'. Refute it at one input. -/
def accountRekeysWrong : ChangeSpec := { name := "accountRekeys", fn := fun _ => fun
  | [d] => { results := [.lit (.bool false)], args := [d] }
  | _ => none }
def AccountRekeysWrongFalsely : Prop := accountRekeysRow.holds Try.pinned (OpenSpec.ofChange accountRekeysWrong)

/-- 'vendmeterlaw.AccountChecks': WHATEVER THE INPUT: true; the input reads as it did. -/
def accountChecksSpec : ChangeSpec := { name := "accountChecks", fn := fun _ => fun
  | [d] => { results := [.lit (.bool true)], args := [d] }
  | _ => none }
def accountChecksRow : OpenClaim := { program := "ytcpljkjibhindaa", sum := "ff00f11324e2f5c63c2b4a49225e94716956a541218d7bef0ac8fda21263a440", func := "vendmeter/vendmeterlaw.AccountChecks", spec := "accountChecks", inPlace := ["internal/reflectlite.ValueOf", "(internal/reflectlite.Value).Len"], unfollowed := true, recurses := true, apart := false }
def AccountChecksSaid : Prop := accountChecksRow.holds Try.pinned (OpenSpec.ofChange accountChecksSpec)

/-- ITS FALSE NEIGHBOUR: 'it returns false'. Refute it at one input. -/
def accountChecksWrong : ChangeSpec := { name := "accountChecks", fn := fun _ => fun
  | [d] => { results := [.lit (.bool false)], args := [d] }
  | _ => none }
def AccountChecksWrongFalsely : Prop := accountChecksRow.holds Try.pinned (OpenSpec.ofChange accountChecksWrong)

/-- 'vendmeterlaw.AccountRolls': WHATEVER THE INPUT: true; the input reads as it did. -/
def accountRollsSpec : ChangeSpec := { name := "accountRolls", fn := fun _ => fun
  | [d1, d2] => { results := [.lit (.bool true)], args := [d1, d2] }
  | _ => none }
def accountRollsRow : OpenClaim := { program := "ytcpljkjibhindaa", sum := "ff00f11324e2f5c63c2b4a49225e94716956a541218d7bef0ac8fda21263a440", func := "vendmeter/vendmeterlaw.AccountRolls", spec := "accountRolls", inPlace := ["internal/reflectlite.ValueOf", "(internal/reflectlite.Value).Len"], unfollowed := true, recurses := true, apart := false }
def AccountRollsSaid : Prop := accountRollsRow.holds Try.pinned (OpenSpec.ofChange accountRollsSpec)

/-- ITS FALSE NEIGHBOUR: 'it returns false'. Refute it at one input. -/
def accountRollsWrong : ChangeSpec := { name := "accountRolls", fn := fun _ => fun
  | [d1, d2] => { results := [.lit (.bool false)], args := [d1, d2] }
  | _ => none }
def AccountRollsWrongFalsely : Prop := accountRollsRow.holds Try.pinned (OpenSpec.ofChange accountRollsWrong)

/-- 'vendmeterlaw.AccountGrants': WHATEVER THE INPUT: true; the input reads as it did. -/
def accountGrantsSpec : ChangeSpec := { name := "accountGrants", fn := fun _ => fun
  | [d1, d2, d3] => { results := [.lit (.bool true)], args := [d1, d2, d3] }
  | _ => none }
def accountGrantsRow : OpenClaim := { program := "ytcpljkjibhindaa", sum := "ff00f11324e2f5c63c2b4a49225e94716956a541218d7bef0ac8fda21263a440", func := "vendmeter/vendmeterlaw.AccountGrants", spec := "accountGrants", inPlace := ["internal/reflectlite.ValueOf", "(internal/reflectlite.Value).Len"], unfollowed := true, recurses := true, apart := false }
def AccountGrantsSaid : Prop := accountGrantsRow.holds Try.pinned (OpenSpec.ofChange accountGrantsSpec)

/-- ITS FALSE NEIGHBOUR: 'it returns false'. Refute it at one input. -/
def accountGrantsWrong : ChangeSpec := { name := "accountGrants", fn := fun _ => fun
  | [d1, d2, d3] => { results := [.lit (.bool false)], args := [d1, d2, d3] }
  | _ => none }
def AccountGrantsWrongFalsely : Prop := accountGrantsRow.holds Try.pinned (OpenSpec.ofChange accountGrantsWrong)

/-- 'vendmeterlaw.AccountSells': WHATEVER THE INPUT: true; the input reads as it did. -/
def accountSellsSpec : ChangeSpec := { name := "accountSells", fn := fun _ => fun
  | [d1, d2, d3, d4] => { results := [.lit (.bool true)], args := [d1, d2, d3, d4] }
  | _ => none }
def accountSellsRow : OpenClaim := { program := "ytcpljkjibhindaa", sum := "ff00f11324e2f5c63c2b4a49225e94716956a541218d7bef0ac8fda21263a440", func := "vendmeter/vendmeterlaw.AccountSells", spec := "accountSells", inPlace := ["internal/reflectlite.ValueOf", "(internal/reflectlite.Value).Len"], unfollowed := true, recurses := true, apart := false }
def AccountSellsSaid : Prop := accountSellsRow.holds Try.pinned (OpenSpec.ofChange accountSellsSpec)

/-- ITS FALSE NEIGHBOUR: 'it returns false'. Refute it at one input. -/
def accountSellsWrong : ChangeSpec := { name := "accountSells", fn := fun _ => fun
  | [d1, d2, d3, d4] => { results := [.lit (.bool false)], args := [d1, d2, d3, d4] }
  | _ => none }
def AccountSellsWrongFalsely : Prop := accountSellsRow.holds Try.pinned (OpenSpec.ofChange accountSellsWrong)

/-- 'vendmeterlaw.WorldBegins': WHATEVER THE INPUT: true; the input reads as it did. -/
def worldBeginsSpec : ChangeSpec := { name := "worldBegins", fn := fun _ => fun
  | [d1, d2, d3] => { results := [.lit (.bool true)], args := [d1, d2, d3] }
  | _ => none }
def worldBeginsRow : OpenClaim := { program := "ytcpljkjibhindaa", sum := "ff00f11324e2f5c63c2b4a49225e94716956a541218d7bef0ac8fda21263a440", func := "vendmeter/vendmeterlaw.WorldBegins", spec := "worldBegins", inPlace := ["internal/reflectlite.ValueOf", "(internal/reflectlite.Value).Len"], unfollowed := true, recurses := true, apart := false }
def WorldBeginsSaid : Prop := worldBeginsRow.holds Try.pinned (OpenSpec.ofChange worldBeginsSpec)

/-- ITS FALSE NEIGHBOUR: 'it returns false'. Refute it at one input. -/
def worldBeginsWrong : ChangeSpec := { name := "worldBegins", fn := fun _ => fun
  | [d1, d2, d3] => { results := [.lit (.bool false)], args := [d1, d2, d3] }
  | _ => none }
def WorldBeginsWrongFalsely : Prop := worldBeginsRow.holds Try.pinned (OpenSpec.ofChange worldBeginsWrong)

/- THE SECOND FORM. 'bulk': how many values and letters a reading holds, each counted each time it is reached (what is shared counts as often as it is met; a slice's spare places count too). A statement '..UptoSaid' is the law's where the arguments, and the package variables that the reading takes, are together of bulk at most 1048576: NARROWER than '..Said'. Prove '..Said' where nothing that the law and all that it calls make is longer than what came in: it says more and counts as full. Else prove '..UptoSaid'. A law counts once. -/
mutual
def uptoBulk {H : Type} : DataW H → Nat
  | .lit (.string bytes) => bytes.length + 1
  | .lit _ => 1
  | .nil => 1
  | .ptr d => uptoBulk d + 1
  | .slice elems spare => uptoBulkAll elems + uptoBulkAll spare + 1
  | .agg parts => uptoBulkAll parts + 1
  | .iface _ d => uptoBulk d + 1
  | .map entries => uptoBulkEntries entries + 1
  | .held _ => 1
def uptoBulkAll {H : Type} : List (DataW H) → Nat
  | [] => 0
  | d :: r => uptoBulk d + uptoBulkAll r
def uptoBulkEntries {H : Type} : List (Lit × DataW H) → Nat
  | [] => 0
  | x :: r => uptoBulkEntry x + uptoBulkEntries r
def uptoBulkEntry {H : Type} : Lit × DataW H → Nat
  | (.string bytes, d) => bytes.length + uptoBulk d + 1
  | (_, d) => uptoBulk d + 1
 end
def uptoSmall : (H : Type) → List (DataW H) → Bool := fun _ ds => decide (uptoBulkAll ds ≤ 1048576)
def OpenSpec.upto (s : _root_.Go.ChangeSpec) : _root_.Go.OpenSpec := { _root_.Go.OpenSpec.ofChange s with cond := some uptoSmall }

/-- 'vendmeterlaw.TariffChecks', WHERE WHAT IT READS IS OF BULK AT MOST 1048576: true; the input reads as it did. -/
def tariffChecksUptoRow : OpenClaim := { program := "ytcpljkjibhindaa", sum := "ff00f11324e2f5c63c2b4a49225e94716956a541218d7bef0ac8fda21263a440", func := "vendmeter/vendmeterlaw.TariffChecks", spec := "tariffChecks", inPlace := ["internal/reflectlite.ValueOf", "(internal/reflectlite.Value).Len"], unfollowed := true, recurses := true, apart := false, narrowed := true }
def TariffChecksUptoSaid : Prop := tariffChecksUptoRow.holds Try.pinned (OpenSpec.upto tariffChecksSpec)

/-- 'vendmeterlaw.TariffBills', WHERE WHAT IT READS IS OF BULK AT MOST 1048576: true; the input reads as it did. -/
def tariffBillsUptoRow : OpenClaim := { program := "ytcpljkjibhindaa", sum := "ff00f11324e2f5c63c2b4a49225e94716956a541218d7bef0ac8fda21263a440", func := "vendmeter/vendmeterlaw.TariffBills", spec := "tariffBills", inPlace := ["internal/reflectlite.ValueOf", "(internal/reflectlite.Value).Len"], unfollowed := true, recurses := true, apart := false, narrowed := true }
def TariffBillsUptoSaid : Prop := tariffBillsUptoRow.holds Try.pinned (OpenSpec.upto tariffBillsSpec)

/-- 'vendmeterlaw.TariffMosts', WHERE WHAT IT READS IS OF BULK AT MOST 1048576: true; the input reads as it did. -/
def tariffMostsUptoRow : OpenClaim := { program := "ytcpljkjibhindaa", sum := "ff00f11324e2f5c63c2b4a49225e94716956a541218d7bef0ac8fda21263a440", func := "vendmeter/vendmeterlaw.TariffMosts", spec := "tariffMosts", inPlace := ["internal/reflectlite.ValueOf", "(internal/reflectlite.Value).Len"], unfollowed := true, recurses := true, apart := false, narrowed := true }
def TariffMostsUptoSaid : Prop := tariffMostsUptoRow.holds Try.pinned (OpenSpec.upto tariffMostsSpec)

/-- 'vendmeterlaw.TariffPrices', WHERE WHAT IT READS IS OF BULK AT MOST 1048576: true; the input reads as it did. -/
def tariffPricesUptoRow : OpenClaim := { program := "ytcpljkjibhindaa", sum := "ff00f11324e2f5c63c2b4a49225e94716956a541218d7bef0ac8fda21263a440", func := "vendmeter/vendmeterlaw.TariffPrices", spec := "tariffPrices", inPlace := ["internal/reflectlite.ValueOf", "(internal/reflectlite.Value).Len"], unfollowed := true, recurses := true, apart := false, narrowed := true }
def TariffPricesUptoSaid : Prop := tariffPricesUptoRow.holds Try.pinned (OpenSpec.upto tariffPricesSpec)

/-- 'vendmeterlaw.AccountOpens', WHERE WHAT IT READS IS OF BULK AT MOST 1048576: true; the input reads as it did. -/
def accountOpensUptoRow : OpenClaim := { program := "ytcpljkjibhindaa", sum := "ff00f11324e2f5c63c2b4a49225e94716956a541218d7bef0ac8fda21263a440", func := "vendmeter/vendmeterlaw.AccountOpens", spec := "accountOpens", apart := false, narrowed := true }
def AccountOpensUptoSaid : Prop := accountOpensUptoRow.holds Try.pinned (OpenSpec.upto accountOpensSpec)

/-- 'vendmeterlaw.AccountOwes', WHERE WHAT IT READS IS OF BULK AT MOST 1048576: true; the input reads as it did. -/
def accountOwesUptoRow : OpenClaim := { program := "ytcpljkjibhindaa", sum := "ff00f11324e2f5c63c2b4a49225e94716956a541218d7bef0ac8fda21263a440", func := "vendmeter/vendmeterlaw.AccountOwes", spec := "accountOwes", apart := false, narrowed := true }
def AccountOwesUptoSaid : Prop := accountOwesUptoRow.holds Try.pinned (OpenSpec.upto accountOwesSpec)

/-- 'vendmeterlaw.AccountRekeys', WHERE WHAT IT READS IS OF BULK AT MOST 1048576: true; the input reads as it did. -/
def accountRekeysUptoRow : OpenClaim := { program := "ytcpljkjibhindaa", sum := "ff00f11324e2f5c63c2b4a49225e94716956a541218d7bef0ac8fda21263a440", func := "vendmeter/vendmeterlaw.AccountRekeys", spec := "accountRekeys", apart := false, narrowed := true }
def AccountRekeysUptoSaid : Prop := accountRekeysUptoRow.holds Try.pinned (OpenSpec.upto accountRekeysSpec)

/-- 'vendmeterlaw.AccountChecks', WHERE WHAT IT READS IS OF BULK AT MOST 1048576: true; the input reads as it did. -/
def accountChecksUptoRow : OpenClaim := { program := "ytcpljkjibhindaa", sum := "ff00f11324e2f5c63c2b4a49225e94716956a541218d7bef0ac8fda21263a440", func := "vendmeter/vendmeterlaw.AccountChecks", spec := "accountChecks", inPlace := ["internal/reflectlite.ValueOf", "(internal/reflectlite.Value).Len"], unfollowed := true, recurses := true, apart := false, narrowed := true }
def AccountChecksUptoSaid : Prop := accountChecksUptoRow.holds Try.pinned (OpenSpec.upto accountChecksSpec)

/-- 'vendmeterlaw.AccountRolls', WHERE WHAT IT READS IS OF BULK AT MOST 1048576: true; the input reads as it did. -/
def accountRollsUptoRow : OpenClaim := { program := "ytcpljkjibhindaa", sum := "ff00f11324e2f5c63c2b4a49225e94716956a541218d7bef0ac8fda21263a440", func := "vendmeter/vendmeterlaw.AccountRolls", spec := "accountRolls", inPlace := ["internal/reflectlite.ValueOf", "(internal/reflectlite.Value).Len"], unfollowed := true, recurses := true, apart := false, narrowed := true }
def AccountRollsUptoSaid : Prop := accountRollsUptoRow.holds Try.pinned (OpenSpec.upto accountRollsSpec)

/-- 'vendmeterlaw.AccountGrants', WHERE WHAT IT READS IS OF BULK AT MOST 1048576: true; the input reads as it did. -/
def accountGrantsUptoRow : OpenClaim := { program := "ytcpljkjibhindaa", sum := "ff00f11324e2f5c63c2b4a49225e94716956a541218d7bef0ac8fda21263a440", func := "vendmeter/vendmeterlaw.AccountGrants", spec := "accountGrants", inPlace := ["internal/reflectlite.ValueOf", "(internal/reflectlite.Value).Len"], unfollowed := true, recurses := true, apart := false, narrowed := true }
def AccountGrantsUptoSaid : Prop := accountGrantsUptoRow.holds Try.pinned (OpenSpec.upto accountGrantsSpec)

/-- 'vendmeterlaw.AccountSells', WHERE WHAT IT READS IS OF BULK AT MOST 1048576: true; the input reads as it did. -/
def accountSellsUptoRow : OpenClaim := { program := "ytcpljkjibhindaa", sum := "ff00f11324e2f5c63c2b4a49225e94716956a541218d7bef0ac8fda21263a440", func := "vendmeter/vendmeterlaw.AccountSells", spec := "accountSells", inPlace := ["internal/reflectlite.ValueOf", "(internal/reflectlite.Value).Len"], unfollowed := true, recurses := true, apart := false, narrowed := true }
def AccountSellsUptoSaid : Prop := accountSellsUptoRow.holds Try.pinned (OpenSpec.upto accountSellsSpec)

/-- 'vendmeterlaw.WorldBegins', WHERE WHAT IT READS IS OF BULK AT MOST 1048576: true; the input reads as it did. -/
def worldBeginsUptoRow : OpenClaim := { program := "ytcpljkjibhindaa", sum := "ff00f11324e2f5c63c2b4a49225e94716956a541218d7bef0ac8fda21263a440", func := "vendmeter/vendmeterlaw.WorldBegins", spec := "worldBegins", inPlace := ["internal/reflectlite.ValueOf", "(internal/reflectlite.Value).Len"], unfollowed := true, recurses := true, apart := false, narrowed := true }
def WorldBeginsUptoSaid : Prop := worldBeginsUptoRow.holds Try.pinned (OpenSpec.upto worldBeginsSpec)

end Rows
end Go.Proofs.Ytcpljkjibhindaa
