/-
  No cell of these rows narrows 'for every input' (looked for: loops, veiled, ifaces, maps, wideKeys, modest, calm, conditions, laid).
  DERIVED. THE GIVEN ROWS OF THIS SEAT. 12 by the template 'for every input the law returns true; each argument reads behind the call as it read before'; 0 by the template 'total and deterministic' (their statements: YtebcdabdnmeeaaaTotals.lean).
  GIVEN WITH THE SEED: the statements are not yours to turn. If you find one false, say at which input.
  Laid BY PROGRAM, IN A SANDBOX (cutbox-rows.mjs): the forced cells as the released guide's own fill.sh prints them over the translation 577774be26c47ebd… (all of the seat's roots in one cut). By AI agents, Wed Nov 11 2026. No macro, syntax, notation, axiom, sorry.
-/
import Derived.Test.YtebcdabdnmeeaaaChecked
import GoSem.Claim
import GoSem.ClaimJoined
import GoSem.ClaimMapViews
import Derived.JoinedTies
import Derived.KernelRfl
namespace Go.Proofs.Ytebcdabdnmeeaaa
/- THE CELL 'sum', in the pinned program and in every row, IS THE sha256 OF THE DUMP (.gsa) THAT YtebcdabdnmeeaaaProg.lean LOADS. Nothing in Lean hashes anything: it is a label: what it is worth is what the hold of that sum in a sandbox is worth. -/
noncomputable def Try.pinned : Pinned := { name := "ytebcdabdnmeeaaa", sum := "577774be26c47ebdcd515cd33392cee4892a4944827fb2e26b719e622c6a3f98", checked := Try.checked }
namespace Rows
def none {H : Type} : Left H := { results := [], args := [] }

/-- 'vendmeterlaw.WindowJudges': WHATEVER THE INPUT: true; the input reads as it did. -/
def windowJudgesSpec : ChangeSpec := { name := "windowJudges", fn := fun _ => fun
  | [d1, d2] => { results := [.lit (.bool true)], args := [d1, d2] }
  | _ => none }
def windowJudgesRow : OpenClaim := { program := "ytebcdabdnmeeaaa", sum := "577774be26c47ebdcd515cd33392cee4892a4944827fb2e26b719e622c6a3f98", func := "vendmeter/vendmeterlaw.WindowJudges", spec := "windowJudges", apart := false }
def WindowJudgesSaid : Prop := windowJudgesRow.holds Try.pinned (OpenSpec.ofChange windowJudgesSpec)

/-- ITS FALSE NEIGHBOUR: 'it returns false'. Refute it at one input. -/
def windowJudgesWrong : ChangeSpec := { name := "windowJudges", fn := fun _ => fun
  | [d1, d2] => { results := [.lit (.bool false)], args := [d1, d2] }
  | _ => none }
def WindowJudgesWrongFalsely : Prop := windowJudgesRow.holds Try.pinned (OpenSpec.ofChange windowJudgesWrong)

/-- 'vendmeterlaw.WindowTakes': WHATEVER THE INPUT: true; the input reads as it did. -/
def windowTakesSpec : ChangeSpec := { name := "windowTakes", fn := fun _ => fun
  | [d1, d2] => { results := [.lit (.bool true)], args := [d1, d2] }
  | _ => none }
def windowTakesRow : OpenClaim := { program := "ytebcdabdnmeeaaa", sum := "577774be26c47ebdcd515cd33392cee4892a4944827fb2e26b719e622c6a3f98", func := "vendmeter/vendmeterlaw.WindowTakes", spec := "windowTakes", apart := false }
def WindowTakesSaid : Prop := windowTakesRow.holds Try.pinned (OpenSpec.ofChange windowTakesSpec)

/-- ITS FALSE NEIGHBOUR: 'it returns false'. Refute it at one input. -/
def windowTakesWrong : ChangeSpec := { name := "windowTakes", fn := fun _ => fun
  | [d1, d2] => { results := [.lit (.bool false)], args := [d1, d2] }
  | _ => none }
def WindowTakesWrongFalsely : Prop := windowTakesRow.holds Try.pinned (OpenSpec.ofChange windowTakesWrong)

/-- 'vendmeterlaw.WindowUses': WHATEVER THE INPUT: true; the input reads as it did. -/
def windowUsesSpec : ChangeSpec := { name := "windowUses", fn := fun _ => fun
  | [d] => { results := [.lit (.bool true)], args := [d] }
  | _ => none }
def windowUsesRow : OpenClaim := { program := "ytebcdabdnmeeaaa", sum := "577774be26c47ebdcd515cd33392cee4892a4944827fb2e26b719e622c6a3f98", func := "vendmeter/vendmeterlaw.WindowUses", spec := "windowUses", apart := false }
def WindowUsesSaid : Prop := windowUsesRow.holds Try.pinned (OpenSpec.ofChange windowUsesSpec)

/-- ITS FALSE NEIGHBOUR: 'it returns false'. Refute it at one input. -/
def windowUsesWrong : ChangeSpec := { name := "windowUses", fn := fun _ => fun
  | [d] => { results := [.lit (.bool false)], args := [d] }
  | _ => none }
def WindowUsesWrongFalsely : Prop := windowUsesRow.holds Try.pinned (OpenSpec.ofChange windowUsesWrong)

/-- 'vendmeterlaw.MeterBegins': WHATEVER THE INPUT: true; the input reads as it did. -/
def meterBeginsSpec : ChangeSpec := { name := "meterBegins", fn := fun _ => fun
  | [d] => { results := [.lit (.bool true)], args := [d] }
  | _ => none }
def meterBeginsRow : OpenClaim := { program := "ytebcdabdnmeeaaa", sum := "577774be26c47ebdcd515cd33392cee4892a4944827fb2e26b719e622c6a3f98", func := "vendmeter/vendmeterlaw.MeterBegins", spec := "meterBegins", apart := false }
def MeterBeginsSaid : Prop := meterBeginsRow.holds Try.pinned (OpenSpec.ofChange meterBeginsSpec)

/-- ITS FALSE NEIGHBOUR: 'it returns false'. Refute it at one input. -/
def meterBeginsWrong : ChangeSpec := { name := "meterBegins", fn := fun _ => fun
  | [d] => { results := [.lit (.bool false)], args := [d] }
  | _ => none }
def MeterBeginsWrongFalsely : Prop := meterBeginsRow.holds Try.pinned (OpenSpec.ofChange meterBeginsWrong)

/-- 'vendmeterlaw.MeterTicks': WHATEVER THE INPUT: true; the input reads as it did. -/
def meterTicksSpec : ChangeSpec := { name := "meterTicks", fn := fun _ => fun
  | [d1, d2] => { results := [.lit (.bool true)], args := [d1, d2] }
  | _ => none }
def meterTicksRow : OpenClaim := { program := "ytebcdabdnmeeaaa", sum := "577774be26c47ebdcd515cd33392cee4892a4944827fb2e26b719e622c6a3f98", func := "vendmeter/vendmeterlaw.MeterTicks", spec := "meterTicks", apart := false }
def MeterTicksSaid : Prop := meterTicksRow.holds Try.pinned (OpenSpec.ofChange meterTicksSpec)

/-- ITS FALSE NEIGHBOUR: 'it returns false'. Refute it at one input. -/
def meterTicksWrong : ChangeSpec := { name := "meterTicks", fn := fun _ => fun
  | [d1, d2] => { results := [.lit (.bool false)], args := [d1, d2] }
  | _ => none }
def MeterTicksWrongFalsely : Prop := meterTicksRow.holds Try.pinned (OpenSpec.ofChange meterTicksWrong)

/-- 'vendmeterlaw.MeterWords': WHATEVER THE INPUT: true; the input reads as it did. -/
def meterWordsSpec : ChangeSpec := { name := "meterWords", fn := fun _ => fun
  | [d] => { results := [.lit (.bool true)], args := [d] }
  | _ => none }
def meterWordsRow : OpenClaim := { program := "ytebcdabdnmeeaaa", sum := "577774be26c47ebdcd515cd33392cee4892a4944827fb2e26b719e622c6a3f98", func := "vendmeter/vendmeterlaw.MeterWords", spec := "meterWords", apart := false }
def MeterWordsSaid : Prop := meterWordsRow.holds Try.pinned (OpenSpec.ofChange meterWordsSpec)

/-- ITS FALSE NEIGHBOUR: 'it returns false'. Refute it at one input. -/
def meterWordsWrong : ChangeSpec := { name := "meterWords", fn := fun _ => fun
  | [d] => { results := [.lit (.bool false)], args := [d] }
  | _ => none }
def MeterWordsWrongFalsely : Prop := meterWordsRow.holds Try.pinned (OpenSpec.ofChange meterWordsWrong)

/-- 'vendmeterlaw.MeterReads': WHATEVER THE INPUT: true; the input reads as it did. -/
def meterReadsSpec : ChangeSpec := { name := "meterReads", fn := fun _ => fun
  | [d] => { results := [.lit (.bool true)], args := [d] }
  | _ => none }
def meterReadsRow : OpenClaim := { program := "ytebcdabdnmeeaaa", sum := "577774be26c47ebdcd515cd33392cee4892a4944827fb2e26b719e622c6a3f98", func := "vendmeter/vendmeterlaw.MeterReads", spec := "meterReads", apart := false }
def MeterReadsSaid : Prop := meterReadsRow.holds Try.pinned (OpenSpec.ofChange meterReadsSpec)

/-- ITS FALSE NEIGHBOUR: 'it returns false'. Refute it at one input. -/
def meterReadsWrong : ChangeSpec := { name := "meterReads", fn := fun _ => fun
  | [d] => { results := [.lit (.bool false)], args := [d] }
  | _ => none }
def MeterReadsWrongFalsely : Prop := meterReadsRow.holds Try.pinned (OpenSpec.ofChange meterReadsWrong)

/-- 'vendmeterlaw.SlotLoads': WHATEVER THE INPUT: true; the input reads as it did. -/
def slotLoadsSpec : ChangeSpec := { name := "slotLoads", fn := fun _ => fun
  | [d1, d2] => { results := [.lit (.bool true)], args := [d1, d2] }
  | _ => none }
def slotLoadsRow : OpenClaim := { program := "ytebcdabdnmeeaaa", sum := "577774be26c47ebdcd515cd33392cee4892a4944827fb2e26b719e622c6a3f98", func := "vendmeter/vendmeterlaw.SlotLoads", spec := "slotLoads", apart := false }
def SlotLoadsSaid : Prop := slotLoadsRow.holds Try.pinned (OpenSpec.ofChange slotLoadsSpec)

/-- ITS FALSE NEIGHBOUR: 'it returns false'. Refute it at one input. -/
def slotLoadsWrong : ChangeSpec := { name := "slotLoads", fn := fun _ => fun
  | [d1, d2] => { results := [.lit (.bool false)], args := [d1, d2] }
  | _ => none }
def SlotLoadsWrongFalsely : Prop := slotLoadsRow.holds Try.pinned (OpenSpec.ofChange slotLoadsWrong)

/-- 'vendmeterlaw.SlotStores': WHATEVER THE INPUT: true; the input reads as it did. -/
def slotStoresSpec : ChangeSpec := { name := "slotStores", fn := fun _ => fun
  | [d1, d2] => { results := [.lit (.bool true)], args := [d1, d2] }
  | _ => none }
def slotStoresRow : OpenClaim := { program := "ytebcdabdnmeeaaa", sum := "577774be26c47ebdcd515cd33392cee4892a4944827fb2e26b719e622c6a3f98", func := "vendmeter/vendmeterlaw.SlotStores", spec := "slotStores", apart := false }
def SlotStoresSaid : Prop := slotStoresRow.holds Try.pinned (OpenSpec.ofChange slotStoresSpec)

/-- ITS FALSE NEIGHBOUR: 'it returns false'. Refute it at one input. -/
def slotStoresWrong : ChangeSpec := { name := "slotStores", fn := fun _ => fun
  | [d1, d2] => { results := [.lit (.bool false)], args := [d1, d2] }
  | _ => none }
def SlotStoresWrongFalsely : Prop := slotStoresRow.holds Try.pinned (OpenSpec.ofChange slotStoresWrong)

/-- 'vendmeterlaw.CellApplies': WHATEVER THE INPUT: true; the input reads as it did. -/
def cellAppliesSpec : ChangeSpec := { name := "cellApplies", fn := fun _ => fun
  | [d1, d2, d3] => { results := [.lit (.bool true)], args := [d1, d2, d3] }
  | _ => none }
def cellAppliesRow : OpenClaim := { program := "ytebcdabdnmeeaaa", sum := "577774be26c47ebdcd515cd33392cee4892a4944827fb2e26b719e622c6a3f98", func := "vendmeter/vendmeterlaw.CellApplies", spec := "cellApplies", unfollowed := true, recurses := true, apart := false }
def CellAppliesSaid : Prop := cellAppliesRow.holds Try.pinned (OpenSpec.ofChange cellAppliesSpec)

/-- ITS FALSE NEIGHBOUR: 'it returns false'. Refute it at one input. -/
def cellAppliesWrong : ChangeSpec := { name := "cellApplies", fn := fun _ => fun
  | [d1, d2, d3] => { results := [.lit (.bool false)], args := [d1, d2, d3] }
  | _ => none }
def CellAppliesWrongFalsely : Prop := cellAppliesRow.holds Try.pinned (OpenSpec.ofChange cellAppliesWrong)

/-- 'vendmeterlaw.DiskReplays': WHATEVER THE INPUT: true; the input reads as it did. -/
def diskReplaysSpec : ChangeSpec := { name := "diskReplays", fn := fun _ => fun
  | [d] => { results := [.lit (.bool true)], args := [d] }
  | _ => none }
def diskReplaysRow : OpenClaim := { program := "ytebcdabdnmeeaaa", sum := "577774be26c47ebdcd515cd33392cee4892a4944827fb2e26b719e622c6a3f98", func := "vendmeter/vendmeterlaw.DiskReplays", spec := "diskReplays", unfollowed := true, recurses := true, apart := false }
def DiskReplaysSaid : Prop := diskReplaysRow.holds Try.pinned (OpenSpec.ofChange diskReplaysSpec)

/-- ITS FALSE NEIGHBOUR: 'it returns false'. Refute it at one input. -/
def diskReplaysWrong : ChangeSpec := { name := "diskReplays", fn := fun _ => fun
  | [d] => { results := [.lit (.bool false)], args := [d] }
  | _ => none }
def DiskReplaysWrongFalsely : Prop := diskReplaysRow.holds Try.pinned (OpenSpec.ofChange diskReplaysWrong)

/-- 'vendmeterlaw.DiskAppends': WHATEVER THE INPUT: true; the input reads as it did. -/
def diskAppendsSpec : ChangeSpec := { name := "diskAppends", fn := fun _ => fun
  | [d1, d2] => { results := [.lit (.bool true)], args := [d1, d2] }
  | _ => none }
def diskAppendsRow : OpenClaim := { program := "ytebcdabdnmeeaaa", sum := "577774be26c47ebdcd515cd33392cee4892a4944827fb2e26b719e622c6a3f98", func := "vendmeter/vendmeterlaw.DiskAppends", spec := "diskAppends", unfollowed := true, recurses := true, apart := false }
def DiskAppendsSaid : Prop := diskAppendsRow.holds Try.pinned (OpenSpec.ofChange diskAppendsSpec)

/-- ITS FALSE NEIGHBOUR: 'it returns false'. Refute it at one input. -/
def diskAppendsWrong : ChangeSpec := { name := "diskAppends", fn := fun _ => fun
  | [d1, d2] => { results := [.lit (.bool false)], args := [d1, d2] }
  | _ => none }
def DiskAppendsWrongFalsely : Prop := diskAppendsRow.holds Try.pinned (OpenSpec.ofChange diskAppendsWrong)

/- THE SECOND FORM. 'bulk': how many values and letters a reading holds, each counted each time it is reached (what is shared counts as often as it is met; a slice's spare places count too). A statement '..UptoSaid' is the law's where the arguments, and the package variables that the reading takes, are together of bulk at most 1048576: NARROWER than '..Said'. Prove '..Said' where nothing that the law and all that it calls make is longer than what came in: it says more and counts as full. Else prove '..UptoSaid'. A law counts once. -/
mutual
def uptoBulk {H : Type} : DataW H → Nat
  | .lit (.string bytes) => bytes.length + 1
  | .lit _ => 1
  | .nil => 1
  | .ptr d => uptoBulk d + 1
  | .slice elems spare => uptoBulkAll elems + uptoBulkAll spare + 1
  | .agg parts => uptoBulkAll parts + 1
  | .iface _ d => uptoBulk d + 1
  | .map entries => uptoBulkEntries entries + 1
  | .held _ => 1
def uptoBulkAll {H : Type} : List (DataW H) → Nat
  | [] => 0
  | d :: r => uptoBulk d + uptoBulkAll r
def uptoBulkEntries {H : Type} : List (Lit × DataW H) → Nat
  | [] => 0
  | x :: r => uptoBulkEntry x + uptoBulkEntries r
def uptoBulkEntry {H : Type} : Lit × DataW H → Nat
  | (.string bytes, d) => bytes.length + uptoBulk d + 1
  | (_, d) => uptoBulk d + 1
 end
def uptoSmall : (H : Type) → List (DataW H) → Bool := fun _ ds => decide (uptoBulkAll ds ≤ 1048576)
def OpenSpec.upto (s : _root_.Go.ChangeSpec) : _root_.Go.OpenSpec := { _root_.Go.OpenSpec.ofChange s with cond := some uptoSmall }

/-- 'vendmeterlaw.WindowJudges', WHERE WHAT IT READS IS OF BULK AT MOST 1048576: true; the input reads as it did. -/
def windowJudgesUptoRow : OpenClaim := { program := "ytebcdabdnmeeaaa", sum := "577774be26c47ebdcd515cd33392cee4892a4944827fb2e26b719e622c6a3f98", func := "vendmeter/vendmeterlaw.WindowJudges", spec := "windowJudges", apart := false, narrowed := true }
def WindowJudgesUptoSaid : Prop := windowJudgesUptoRow.holds Try.pinned (OpenSpec.upto windowJudgesSpec)

/-- 'vendmeterlaw.WindowTakes', WHERE WHAT IT READS IS OF BULK AT MOST 1048576: true; the input reads as it did. -/
def windowTakesUptoRow : OpenClaim := { program := "ytebcdabdnmeeaaa", sum := "577774be26c47ebdcd515cd33392cee4892a4944827fb2e26b719e622c6a3f98", func := "vendmeter/vendmeterlaw.WindowTakes", spec := "windowTakes", apart := false, narrowed := true }
def WindowTakesUptoSaid : Prop := windowTakesUptoRow.holds Try.pinned (OpenSpec.upto windowTakesSpec)

/-- 'vendmeterlaw.WindowUses', WHERE WHAT IT READS IS OF BULK AT MOST 1048576: true; the input reads as it did. -/
def windowUsesUptoRow : OpenClaim := { program := "ytebcdabdnmeeaaa", sum := "577774be26c47ebdcd515cd33392cee4892a4944827fb2e26b719e622c6a3f98", func := "vendmeter/vendmeterlaw.WindowUses", spec := "windowUses", apart := false, narrowed := true }
def WindowUsesUptoSaid : Prop := windowUsesUptoRow.holds Try.pinned (OpenSpec.upto windowUsesSpec)

/-- 'vendmeterlaw.MeterBegins', WHERE WHAT IT READS IS OF BULK AT MOST 1048576: true; the input reads as it did. -/
def meterBeginsUptoRow : OpenClaim := { program := "ytebcdabdnmeeaaa", sum := "577774be26c47ebdcd515cd33392cee4892a4944827fb2e26b719e622c6a3f98", func := "vendmeter/vendmeterlaw.MeterBegins", spec := "meterBegins", apart := false, narrowed := true }
def MeterBeginsUptoSaid : Prop := meterBeginsUptoRow.holds Try.pinned (OpenSpec.upto meterBeginsSpec)

/-- 'vendmeterlaw.MeterTicks', WHERE WHAT IT READS IS OF BULK AT MOST 1048576: true; the input reads as it did. -/
def meterTicksUptoRow : OpenClaim := { program := "ytebcdabdnmeeaaa", sum := "577774be26c47ebdcd515cd33392cee4892a4944827fb2e26b719e622c6a3f98", func := "vendmeter/vendmeterlaw.MeterTicks", spec := "meterTicks", apart := false, narrowed := true }
def MeterTicksUptoSaid : Prop := meterTicksUptoRow.holds Try.pinned (OpenSpec.upto meterTicksSpec)

/-- 'vendmeterlaw.MeterWords', WHERE WHAT IT READS IS OF BULK AT MOST 1048576: true; the input reads as it did. -/
def meterWordsUptoRow : OpenClaim := { program := "ytebcdabdnmeeaaa", sum := "577774be26c47ebdcd515cd33392cee4892a4944827fb2e26b719e622c6a3f98", func := "vendmeter/vendmeterlaw.MeterWords", spec := "meterWords", apart := false, narrowed := true }
def MeterWordsUptoSaid : Prop := meterWordsUptoRow.holds Try.pinned (OpenSpec.upto meterWordsSpec)

/-- 'vendmeterlaw.MeterReads', WHERE WHAT IT READS IS OF BULK AT MOST 1048576: true; the input reads as it did. -/
def meterReadsUptoRow : OpenClaim := { program := "ytebcdabdnmeeaaa", sum := "577774be26c47ebdcd515cd33392cee4892a4944827fb2e26b719e622c6a3f98", func := "vendmeter/vendmeterlaw.MeterReads", spec := "meterReads", apart := false, narrowed := true }
def MeterReadsUptoSaid : Prop := meterReadsUptoRow.holds Try.pinned (OpenSpec.upto meterReadsSpec)

/-- 'vendmeterlaw.SlotLoads', WHERE WHAT IT READS IS OF BULK AT MOST 1048576: true; the input reads as it did. -/
def slotLoadsUptoRow : OpenClaim := { program := "ytebcdabdnmeeaaa", sum := "577774be26c47ebdcd515cd33392cee4892a4944827fb2e26b719e622c6a3f98", func := "vendmeter/vendmeterlaw.SlotLoads", spec := "slotLoads", apart := false, narrowed := true }
def SlotLoadsUptoSaid : Prop := slotLoadsUptoRow.holds Try.pinned (OpenSpec.upto slotLoadsSpec)

/-- 'vendmeterlaw.SlotStores', WHERE WHAT IT READS IS OF BULK AT MOST 1048576: true; the input reads as it did. -/
def slotStoresUptoRow : OpenClaim := { program := "ytebcdabdnmeeaaa", sum := "577774be26c47ebdcd515cd33392cee4892a4944827fb2e26b719e622c6a3f98", func := "vendmeter/vendmeterlaw.SlotStores", spec := "slotStores", apart := false, narrowed := true }
def SlotStoresUptoSaid : Prop := slotStoresUptoRow.holds Try.pinned (OpenSpec.upto slotStoresSpec)

/-- 'vendmeterlaw.CellApplies', WHERE WHAT IT READS IS OF BULK AT MOST 1048576: true; the input reads as it did. -/
def cellAppliesUptoRow : OpenClaim := { program := "ytebcdabdnmeeaaa", sum := "577774be26c47ebdcd515cd33392cee4892a4944827fb2e26b719e622c6a3f98", func := "vendmeter/vendmeterlaw.CellApplies", spec := "cellApplies", unfollowed := true, recurses := true, apart := false, narrowed := true }
def CellAppliesUptoSaid : Prop := cellAppliesUptoRow.holds Try.pinned (OpenSpec.upto cellAppliesSpec)

/-- 'vendmeterlaw.DiskReplays', WHERE WHAT IT READS IS OF BULK AT MOST 1048576: true; the input reads as it did. -/
def diskReplaysUptoRow : OpenClaim := { program := "ytebcdabdnmeeaaa", sum := "577774be26c47ebdcd515cd33392cee4892a4944827fb2e26b719e622c6a3f98", func := "vendmeter/vendmeterlaw.DiskReplays", spec := "diskReplays", unfollowed := true, recurses := true, apart := false, narrowed := true }
def DiskReplaysUptoSaid : Prop := diskReplaysUptoRow.holds Try.pinned (OpenSpec.upto diskReplaysSpec)

/-- 'vendmeterlaw.DiskAppends', WHERE WHAT IT READS IS OF BULK AT MOST 1048576: true; the input reads as it did. -/
def diskAppendsUptoRow : OpenClaim := { program := "ytebcdabdnmeeaaa", sum := "577774be26c47ebdcd515cd33392cee4892a4944827fb2e26b719e622c6a3f98", func := "vendmeter/vendmeterlaw.DiskAppends", spec := "diskAppends", unfollowed := true, recurses := true, apart := false, narrowed := true }
def DiskAppendsUptoSaid : Prop := diskAppendsUptoRow.holds Try.pinned (OpenSpec.upto diskAppendsSpec)

end Rows
end Go.Proofs.Ytebcdabdnmeeaaa
